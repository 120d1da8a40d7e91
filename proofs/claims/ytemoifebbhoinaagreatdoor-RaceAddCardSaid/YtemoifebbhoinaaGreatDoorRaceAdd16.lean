/- Part of the proof of: The law RaceAdd returns true for every input, and leaves its arguments as they were. -/
import Derived.Test.YtemoifebbhoinaaGreatDoorRaceAdd15
import Derived.Test.YtemoifebbhoinaaGreatDoorCards
import Derived.Test.YtemoifebbhoinaaGreatDoorRows
set_option linter.all false
set_option maxRecDepth 20000
namespace Go.Proofs.YtemoifebbhoinaaGreatDoor
open Go.Proofs.Tryz
open Go.IntKind (i64 u64)
open _root_.Bool (and_eq_true)
open _root_.List (all_eq_true drop_drop getElem?_eq_getElem length_append mem_cons mem_map mem_of_getElem? mem_range range replicate take_append_drop)
open _root_.Nat (le_refl le_succ succ_mul zero_le)
open _root_.Option (bind_eq_some_iff)
section
open Go Mb
theorem calls_nil:∀ (n:Nat) {l:List As} {h:Hp},aE l h->aE (all iy (replicate n (none:Ptr)) (replicate n (none:Option KC))::l) h
 | 0,_,_,s=>all_nil s
 | n + 1,l,h,s=>by
  have s1:=star_cons (A:=iy none none) (fun _=>rfl) (calls_nil n s)
  rw [List.replicate_succ,List.replicate_succ]
  obtain ⟨h1,h2,d,e,a,h3,h4,d2,e2,b,s'⟩:=s1
  subst e2
  obtain ⟨d3,d4⟩:=Dj.of_un_right d
  exact ⟨un h1 h3,h4,Dj.un_left d4 d2,by rw [e,mI],⟨h1,h3,d3,rfl,a,b⟩,s'⟩
def newI (s:eK) (b n:Nat) (pp pm pe:Ptr) (cs:Sl) (i:Int) (h:Hp):Prop:=∃ (j:Nat) (ts:Sl) (tp:List Ptr),i = j/\j <= n/\tp.length = j/\aE [blk b cj [pv pp,.int .i64 s.fIa,sv ts,pv pm,pv pe,sv cs,sv (⟨none,0,0,none⟩:Sl),.int .i64 0],bq pp (PK.new s),vQ sE ts tp,all fF tp (replicate j tlb0),jl pm (replicate n []),eY pe ([],replicate n 0),vQ fx cs (replicate n none),all iy (replicate n none) (replicate n none),vE (⟨none,0,0,none⟩:Sl) []] h
theorem new_round {s:eK} {b n:Nat} {pp pm pe:Ptr} {cs:Sl} (hn8:n <= 8) {i:Int} {h:Hp} (H:newI s b n pp pm pe cs i h) (hi:i < n) :
  (both (ld (b,2) cS fun x31=>cl prog iA [] gE fun r32=>hpv prog (Instr.buildSlice bS 1 #[(0,(pv r32))]) dJ fun (v33:Sl)=>hpv prog (Builtin.append_ #[bS,bS] bS #[(sv x31),(sv v33)]) dJ fun (v34:Sl)=>Mb.st (b,2) [sv v34] fun h'=>newI s b n pp pm pe cs (i64.wrap (i + 1)) h'/\n - (i64.wrap (i + 1)).toNat < n - i.toNat)
  (cl prog iA [] gE fun r32=>ld (b,2) cS fun x31=>hpv prog (Instr.buildSlice bS 1 #[(0,(pv r32))]) dJ fun (v33:Sl)=>hpv prog (Builtin.append_ #[bS,bS] bS #[(sv x31),(sv v33)]) dJ fun (v34:Sl)=>Mb.st (b,2) [sv v34] fun h'=>newI s b n pp pm pe cs (i64.wrap (i + 1)) h'/\n - (i64.wrap (i + 1)).toNat < n - i.toNat)) h:=by
 obtain ⟨j,ts,tp,rfl,hj,htp,s6⟩:=H
 have hlt:j < n:=by omega
 have hw:i64.wrap ((j:Int) + 1) = ((j + 1:Nat):Int):=by rw [bN (by omega) (by omega)]; rfl
 rw [hw]
 have fin:∀ (r:Ptr) (v:Sl) (h:Hp),aE [fF r tlb0,blk b cj [pv pp,.int .i64 s.fIa,sv ts,pv pm,pv pe,sv cs,sv (⟨none,0,0,none⟩:Sl),.int .i64 0],bq pp (PK.new s),vQ sE v (tp++[r]),all fF tp (replicate j tlb0),jl pm (replicate n []),eY pe ([],replicate n 0),vQ fx cs (replicate n none),all iy (replicate n none) (replicate n none),vE (⟨none,0,0,none⟩:Sl) []] h ->
   Mb.st (b,2) [sv v] (fun h'=>newI s b n pp pm pe cs ((j + 1:Nat):Int) h'/\n - ((j + 1:Nat):Int).toNat < n - (j:Int).toNat) h:=by
  intro r v h s7
  refine uJ (i:=1) s7 rfl (Nat.le_of_ble_eq_true rfl) fun h8 s8=>?_
  refine ⟨⟨j + 1,v,tp++[r],rfl,hlt,by simp [htp],?_⟩,by simp; omega⟩
  have s9:=all_push (by simp [htp]) (bc [0,3] s8 rfl)
  have e:replicate j tlb0++[tlb0] = replicate (j + 1) tlb0:=List.replicate_succ'.symm
  rw [e] at s9
  exact bc [1,1,1,0] s9 rfl
 refine ⟨?_,?_⟩
 ·refine bn ts s6 (i:=0) rfl rfl rfl ?_
  refine lJ wo s6 fun r h7 s7=>?_
  refine kC (τ:=Ptr) (i:=3) (enc:=cP) (val:=fun x=>pv x) el_SPtlb_Tlb gR cP_one (fun _=>rfl) (by omega) rfl rfl s7 rfl (by omega) (by omega) fun v h8 s8=>?_
  exact fin r v h8 s8
 ·refine lJ wo s6 fun r h7 s7=>?_
  refine bn ts s7 (i:=1) rfl rfl rfl ?_
  refine kC (τ:=Ptr) (i:=3) (enc:=cP) (val:=fun x=>pv x) el_SPtlb_Tlb gR cP_one (fun _=>rfl) (by omega) rfl rfl s7 rfl (by omega) (by omega) fun v h8 s8=>?_
  exact fin r v h8 s8
theorem new_start {s:eK} {b n:Nat} {pp pm pe:Ptr} {cs:Sl} {h:Hp}
  (st:aE [blk b cj (fH.C (⟨pp,s.fIa,(⟨none,0,0,none⟩:Sl),pm,pe,cs,(⟨none,0,0,none⟩:Sl),0⟩:fH)),bq pp (PK.new s),jl pm (replicate n []),eY pe ([],replicate n 0),vQ fx cs (replicate n none)] h):newI s b n pp pm pe cs 0 h:=by
 have s1:=fL (τ:=bk) (T:=t_api_Event) (m:=16) (enc:=aF.C) (calls_nil n (fL (τ:=Ptr) (T:=sE) (m:=1) (enc:=cP) (all_nil (A:=fF) st)))
 exact ⟨0,⟨none,0,0,none⟩,[],rfl,zero_le _,rfl,bc [4,4,2,2,2,2,2,1] s1 rfl⟩
theorem new_end {s:eK} (hs:PK.sized s = true) {b n:Nat} (hn:s.fWa = n) {pp pm pe:Ptr} {cs:Sl} {h:Hp} (H:newI s b n pp pm pe cs n h):aE [cE (some (b,0)) (KK.new s)] h:=by
 obtain ⟨j,ts,tp,hj,hj2,htp,s6⟩:=H
 have:j = n:=by omega
 subst this
 have ok:=kok_new hs
 have e:KK.new s = ⟨PK.new s,replicate j tlb0,replicate j [],([],replicate j 0),replicate j none,[],0⟩:=by unfold KK.new; rw [hn]; rfl
 rw [e] at ok ⊢
 exact qt (z:=⟨b,pp,ts,tp,pm,pe,cs,replicate j none,⟨none,0,0,none⟩⟩) ⟨by simpa using htp,by simp⟩ ok s6
theorem sp_kern_New (s:eK) (hs:PK.sized s = true):Sp prog xe [.agg s.C.toArray] ko [] (fun r=>aE [cE r (KK.new s)]):=by
 intro h st
 have hz:=fB.1 hs
 obtain ⟨n,hn⟩:=Int.eq_ofNat_of_zero_le (show 0 <= s.fWa by omega)
 have hn8:n <= 8:=by omega
 refine sim_kern_New _ ?_
 unfold sh_kern_New
 refine lJ (rT s hs) st fun pp h1 s1=>?_
 have hpp:pp.isNone = false:=by
  obtain ⟨_,h2,_⟩:=fM s1; rw [h2]; rfl
 refine dp hpp ?_
 have mk:∀ {l:List As} {h:Hp} {K:Sl->Hp->Prop},aE l h->(∀ v h',aE (vQ fx v (replicate n none)::l) h'->K v h')->hpv prog (Instr.makeSlice mP (.int .i64 s.fWa) (.int .i64 s.fWa)) qx K h:=by
  intro l h K s2 k
  rw [hn]
  exact lD (τ:=Ptr) (x0:=none) (enc:=cP) (n:=n) (T:=fx) (m:=1) el_SPkern_call rfl s2 (by omega) (by omega) k
 have em:s.fWa.toNat = n:=by omega
 refine ⟨?_,?_⟩
 ·refine lJ (sp_mail_New s.fWa (by omega) (by omega)) s1 fun pm h2 s2=>?_
  refine ⟨?_,?_⟩
  ·refine lJ (rV s.fWa (by omega) (by omega)) s2 fun pe h3 s3=>?_
   rw [em] at s3
   refine mk s3 fun cs h4 s4=>?_
   refine pn s4 fun b h5 s5=>?_
   refine Lp.intro (fun (i:Int) h=>newI s b n pp pm pe cs i h) (fun (i:Int) _=>n - i.toNat) (new_start (bc [0,4,3,2,1] s5 rfl)) ?_
   intro i h H
   unfold kern_New_l1
   refine aY (fun d=>new_round hn8 H (by have:=of_decide_eq_true d; omega)) (fun d=>?_)
   have:i = n:=by obtain ⟨j,_,_,e,hj,_⟩:=H; have:=of_decide_eq_false d; omega
   subst this
   exact new_end hs hn H
  ·refine mk s2 fun cs h3 s3=>?_
   refine lJ (rV s.fWa (by omega) (by omega)) s3 fun pe h4 s4=>?_
   rw [em] at s4
   refine pn s4 fun b h5 s5=>?_
   refine Lp.intro (fun (i:Int) h=>newI s b n pp pm pe cs i h) (fun (i:Int) _=>n - i.toNat) (new_start (bc [0,3,2,0,0] s5 rfl)) ?_
   intro i h H
   unfold kern_New_l2
   refine aY (fun d=>new_round hn8 H (by have:=of_decide_eq_true d; omega)) (fun d=>?_)
   have:i = n:=by obtain ⟨j,_,_,e,hj,_⟩:=H; have:=of_decide_eq_false d; omega
   subst this
   exact new_end hs hn H
 ·refine mk s1 fun cs h2 s2=>?_
  refine lJ (sp_mail_New s.fWa (by omega) (by omega)) s2 fun pm h3 s3=>?_
  refine lJ (rV s.fWa (by omega) (by omega)) s3 fun pe h4 s4=>?_
  rw [em] at s4
  refine pn s4 fun b h5 s5=>?_
  refine Lp.intro (fun (i:Int) h=>newI s b n pp pm pe cs i h) (fun (i:Int) _=>n - i.toNat) (new_start (bc [0,3,1,0,0] s5 rfl)) ?_
  intro i h H
  unfold kern_New_l3
  refine aY (fun d=>new_round hn8 H (by have:=of_decide_eq_true d; omega)) (fun d=>?_)
  have:i = n:=by obtain ⟨j,_,_,e,hj,_⟩:=H; have:=of_decide_eq_false d; omega
  subst this
  exact new_end hs hn H
end
section
open Go Mb
def tt (a0:Int) (Rec17:(Sl × Int)->Hp->Prop) (s16:Sl × Int) (x32:Int) (Rec26:(Sl × Int)->Hp->Prop) (s25:Sl × Int):Hp->Prop:=br (decide (s25.2 < a0)) ( hpv prog (Instr.buildSlice nG 1 #[(0,(.agg (dO.C (⟨x32,s25.2,0,(⟨0,0,0,0,0⟩:ai),0,0⟩:dO)).toArray))]) oe fun (v41:Sl)=>hpv prog (Builtin.append_ #[nG,nG] nG #[(sv s25.1),(sv v41)]) oe fun (v42:Sl)=>Rec26 (v42,(i64.wrap (s25.2 + 1)))) ( Rec17 (s25.1,(i64.wrap (s16.2 + 1))))
def tu (a0:Int) (Rec11:(Sl × Int)->Hp->Prop) (s10:Sl × Int) (v27:Sl) (Rec17:(Sl × Int)->Hp->Prop) (s16:Sl × Int):Hp->Prop:=br (decide (s16.2 < (v27.len:Int))) ( ix v27 s16.2 fun q31=>ld (q31.1,q31.2 + Int.toNat s16.2 * 1) (cI .i64) fun x32=>Lp (tt a0 Rec17 s16 x32) (s16.1,0)) ( Rec11 (s16.1,(i64.wrap (s10.2 + 1))))
def tv (a0:Int) (a1:Int) (K:Sl->Hp->Prop) (Rec11:(Sl × Int)->Hp->Prop) (s10:Sl × Int):Hp->Prop:=br (decide (s10.2 < a1)) ( hpv prog (Instr.buildSlice dD 2 #[(0,(.int .i64 3)),(1,(.int .i64 2))]) cx fun (v27:Sl)=>Lp (tu a0 Rec11 s10 v27) (s10.1,0)) ( K s10.1)
def sh_fair_Rounds (a0:Int) (a1:Int) (K:Sl->Hp->Prop):Hp->Prop:=br ((((decide (a0 < 1)) || (decide (a0 > 8))) || (decide (a1 < 0))) || (decide (a1 > 500))) ( K (⟨none,0,0,none⟩:Sl)) ( hpv prog (Instr.buildSlice nG 0 #[]) oe fun (v23:Sl)=>Lp (tv a0 a1 K) (v23,0))
theorem sim_fair_Rounds (a0:Int) (a1:Int) {K:Sl->Hp->Prop} {h:Hp} (H:sh_fair_Rounds a0 a1 K h):cl prog uU [(.int .i64 a0),(.int .i64 a1)] oe K h:=z_i func49 p p fun _=>O<|U p<|am<|O<|M p<|J (cu p p)<|M p<|W p p (aI _) (fun g1=>wv<|aj p)<|W p p (aI _) (fun g2=>wv<|qA (aC p g2) p)<|J (dr p p)<|M p<|W p p (aI _) (fun g3=>wv<|aj p)<|W p p (aI _) (fun g4=>wv<|cu (aC p g4) p)<|J (dr p p)<|M p<|W p p (aI _) (fun g5=>wv<|aj p)<|W p p (aI _) (fun g6=>wv<|qA (aC p g6) p)<|J (dr p p)<|ae<|aw p H (fun k7 H8=>O<|U p<|ak<|Z ⟨(⟨none,0,0,none⟩:Sl),p,H8⟩) fun k7 H8=>ap<|O<|aa<|aS H8 (bt (vs:=[]) p) p fun v23 _ H9=>U p<|am<|O<|M p<|M p<|ae<|az<|bC (step:=tv a0 a1 K) (fun s10=>[(0,(.int .i64 a0)),(5,(sv s10.1)),(24,(.int .i64 a1)),(25,(.int .i64 s10.2))]) (fun s10=>[]) H9 (.cons p<|.cons p<|.cons p<|.cons p<|.nil _) .slnil fun Rec11 s10 _ H12=>O<|J (cu p p)<|ae<|am<|aw p H12 (fun k13 H14=>ap<|am<|az<|O<|aa<|aS H14 (bt (vs:=[(.int .i64 3),(.int .i64 2)]) p) p fun v27 _ H15=>J (dv p underlying39 p)<|M p<|ae<|az<|bC (step:=tu a0 Rec11 s10 v27) (fun s16=>[(0,(.int .i64 a0)),(5,(sv s16.1)),(24,(.int .i64 a1)),(25,(.int .i64 s10.2)),(27,(sv v27)),(28,(.int .i64 (v27.len:Int))),(29,(.int .i64 s16.2))]) (fun s16=>[]) H15 (.cons p<|.cons p<|.cons p<|.cons p<|.cons p<|.cons p<|.cons p<|.nil _) .slnil fun Rec17 s16 _ H18=>O<|J (cu p p)<|ae<|am<|aw p H18 (fun k19 H20=>ap<|am<|az<|O<|ch H20 fun q31 e21 h22 H23=>J (bm fP (aM p<|ba e21) p h22)<|aa<|aV H23 bb p (fun _=>p) p fun x32 H24=>U p<|O<|M p<|M p<|ae<|az<|bC (step:=tt a0 Rec17 s16 x32) (fun s25=>[(0,(.int .i64 a0)),(5,(sv s25.1)),(7,(.int .i64 x32)),(24,(.int .i64 a1)),(25,(.int .i64 s10.2)),(27,(sv v27)),(28,(.int .i64 (v27.len:Int))),(29,(.int .i64 s16.2)),(33,(.int .i64 a0)),(34,(.int .i64 s25.2))]) (fun s25=>[]) H24 (.cons p<|.cons p<|.cons p<|.cons p<|.cons p<|.cons p<|.cons p<|.cons p<|.cons p<|.cons p<|.nil _) .slnil fun Rec26 s25 _ H27=>O<|J (cu p p)<|ae<|am<|aw p H27 (fun k28 H29=>ap<|am<|az<|O<|M p<|U p<|aq<|M p<|M p<|M p<|J (aZ p<|build_51_0_1 x32 s25.2)<|aa<|aS H29 (bt (vs:=[(.agg (dO.C (⟨x32,s25.2,0,(⟨0,0,0,0,0⟩:ai),0,0⟩:dO)).toArray)]) p) p fun v41 _ H30=>aa<|aS H30 (dG p p) p fun v42 _ H31=>U p<|aq<|J (bo p p)<|M p<|ae<|cL (v42,(i64.wrap (s25.2 + 1))) H31 (.cons p<|.cons p<|.cons p<|.cons p<|.cons p<|.cons p<|.cons p<|.cons p<|.cons p<|.cons p<|.nil _) .slnil) fun k28 H29=>bj<|aq<|J (bo p p)<|M p<|ae<|cL (s25.1,(i64.wrap (s16.2 + 1))) H29 (.cons p<|.cons p<|.cons p<|.cons p<|.cons p<|.cons p<|.cons p<|.nil _) .slnil) fun k19 H20=>bj<|aq<|J (bo p p)<|M p<|ae<|cL (s16.1,(i64.wrap (s10.2 + 1))) H20 (.cons p<|.cons p<|.cons p<|.cons p<|.nil _) .slnil) fun k13 H14=>bj<|O<|M p<|U p<|ak<|Z ⟨s10.1,p,H14⟩
def rp (a0:Sl) (a1:Int) (a2:Int) (K:Int->Hp->Prop) (Rec2:(Int × Int × Int)->Hp->Prop) (s1:Int × Int × Int):Hp->Prop:=br (decide (s1.2.2 < (a0.len:Int))) ( ix a0 s1.2.2 fun q15=>ld (q15.1,q15.2 + Int.toNat s1.2.2 * 10) dO.C fun x16=>br ((x16.fKind == a1) && (x16.fQa == a2)) ( Rec2 ((mx s1.1 0),0,(i64.wrap (s1.2.2 + 1)))) ( Rec2 ((mx s1.1 (i64.wrap (s1.2.1 + 1))),(i64.wrap (s1.2.1 + 1)),(i64.wrap (s1.2.2 + 1))))) ( K s1.1)
def sh_fair_Longest (a0:Sl) (a1:Int) (a2:Int) (K:Int->Hp->Prop):Hp->Prop:=Lp (rp a0 a1 a2 K) (0,0,0)
theorem sim_fair_Longest (a0:Sl) (a1:Int) (a2:Int) {K:Int->Hp->Prop} {h:Hp} (H:sh_fair_Longest a0 a1 a2 K h):cl prog oP [(sv a0),(.int .i64 a1),(.int .i64 a2)] eA K h:=z_i func101 p p fun _=>O<|U p<|O<|J (av p)<|U p<|am<|O<|M p<|J (dv p underlying45 p)<|M p<|ae<|az<|bC (step:=rp a0 a1 a2 K) (fun s1=>[(1,(.int .i64 a1)),(2,(.int .i64 a2)),(7,(.int .i64 s1.1)),(8,(.int .i64 s1.2.1)),(11,(sv a0)),(12,(.int .i64 (a0.len:Int))),(13,(.int .i64 s1.2.2))]) (fun s1=>[]) H (.cons p<|.cons p<|.cons p<|.cons p<|.cons p<|.cons p<|.cons p<|.nil _) .slnil fun Rec2 s1 _ H3=>O<|J (cu p p)<|ae<|am<|aw p H3 (fun k4 H5=>ap<|am<|az<|O<|ch H5 fun q15 e6 h7 H8=>J (bm slc_45 (aM p<|ba e6) p h7)<|aa<|gA H8 ag_51 p (fun _=>p) p fun x16 H9=>aa<|aN (l:=dO.C (⟨0,0,0,(⟨0,0,0,0,0⟩:ai),0,0⟩:dO)) zero_51 p p fun b10=>aa<|aQ (k:=0) (vs:=dO.C x16) inf_51 p p p p p p p<|ae<|O<|M p<|J (bo p p)<|U p<|am<|O<|J (ah fld_51_0 p)<|bi (be (k:=0) bb p p p) p<|M p<|J (bR p p)<|M p<|W p p (ay _) (fun g10=>wv<|ah fld_51_1 p)<|W p p (ay _) (fun g11=>cv<|be (k:=0) bb (aC p g11) p p)<|W p p (ay _) (fun g12=>wv<|aj p)<|W p p (ay _) (fun g13=>wv<|bR (aC p g13)<|aC p g13)<|J (bP p p)<|ae<|aw p H9 (fun k14 H15=>aq<|U p<|aq<|M p<|M p<|J (v_maxT p p)<|U p<|aq<|J (bo p p)<|M p<|ae<|cL ((mx s1.1 0),0,(i64.wrap (s1.2.2 + 1))) H15 (.cons p<|.cons p<|.cons p<|.cons p<|.cons p<|.cons p<|.cons p<|.nil _)<|.cons _ .slnil) fun k14 H15=>ap<|aq<|M p<|M p<|J (v_maxT p p)<|U p<|aq<|J (bo p p)<|M p<|ae<|cL ((mx s1.1 (i64.wrap (s1.2.1 + 1))),(i64.wrap (s1.2.1 + 1)),(i64.wrap (s1.2.2 + 1))) H15 (.cons p<|.cons p<|.cons p<|.cons p<|.cons p<|.cons p<|.cons p<|.nil _)<|.cons _ .slnil) fun k4 H5=>bj<|O<|M p<|U p<|ak<|Z ⟨s1.1,p,H5⟩
def xp (a0:Sl) (a1:Int) (a2:Int) (K:Bool->Hp->Prop) (Rec2:Int->Hp->Prop) (s1:Int):Hp->Prop:=br (decide (s1 < a1)) ( cl prog oP [(sv a0),(.int .i64 2),(.int .i64 s1)] eA fun r14=>br (!(decide (r14 >= a2))) ( cl prog oP [(sv a0),(.int .i64 3),(.int .i64 s1)] eA fun r20=>br (decide (r20 >= a2)) ( K false) ( Rec2 (i64.wrap (s1 + 1)))) ( K false)) ( K true)
def sh_fair_Fair (a0:Sl) (a1:Int) (a2:Int) (K:Bool->Hp->Prop):Hp->Prop:=Lp (xp a0 a1 a2 K) 0
theorem sim_fair_Fair (a0:Sl) (a1:Int) (a2:Int) {K:Bool->Hp->Prop} {h:Hp} (H:sh_fair_Fair a0 a1 a2 K h):cl prog n_fair_Fair [(sv a0),(.int .i64 a1),(.int .i64 a2)] aB K h:=z_i func51 p p fun _=>O<|U p<|am<|O<|M p<|M p<|ae<|az<|bC (step:=xp a0 a1 a2 K) (fun s1=>[(0,(sv a0)),(2,(.int .i64 a2)),(8,(.int .i64 a1)),(9,(.int .i64 s1))]) (fun s1=>[]) H (.cons p<|.cons p<|.cons p<|.cons p<|.nil _) .slnil fun Rec2 s1 _ H3=>O<|J (cu p p)<|ae<|am<|aw p H3 (fun k4 H5=>ap<|am<|az<|O<|M p<|U p<|O<|M p<|M p<|aa<|D H5 en_101 fun r14 _ H6=>M p<|J (jx p p)<|M p<|W p p (aI _) (fun g7=>wv<|aj p)<|W p p (aI _) (fun g8=>wv<|aj p)<|bU H6 (fun k10 H11=>G (F<|cg k10)<|gc H11 en_101 (aR (aC p k10)<|aR p<|aR (aC p k10) bO) p fun r20 _ H12=>G (F<|cg k10)<|z_p (aj p)<|G (F<|cg k10)<|z_p (jx p p)<|J (au p (cg k10) p)<|ae<|aw p H12 (fun k13 H14=>O<|U p<|ak<|Z ⟨false,p,H14⟩) fun k13 H14=>ap<|aq<|J (bo p p)<|M p<|ae<|cL (i64.wrap (s1 + 1)) H14 (.cons p<|.cons p<|.cons p<|.cons p<|.nil _) .slnil) fun k10 H11=>Y (bY<|bG k10)<|Y (bY<|bG k10)<|Y (bY<|bG k10)<|J (aT p (bG k10) p)<|ae<|lH p p<|O<|U p<|ak<|Z ⟨false,p,H11⟩) fun k4 H5=>bj<|O<|U p<|ak<|Z ⟨true,p,H5⟩
end
section
open Go Mb
abbrev Pick:=dO
abbrev vK (s:Sl) (xs:List Pick):As:=vec t_api_Pick 10 dO.C s xs
theorem pick_len (p:Pick):p.C.length = 10:=rfl
theorem pick_one (p:Pick):dA p.C = true:=rfl
namespace Fair
def longFrom (kind core:Int):List Pick->Int->Int->Int
 | [],best,_=>best
 | p::ps,best,now=>if p.fKind = kind/\p.fQa = core then longFrom kind core ps (mx best 0) 0 else longFrom kind core ps (mx best (i64.wrap (now + 1))) (i64.wrap (now + 1))
def longest (ps:List Pick) (kind core:Int):Int:=longFrom kind core ps 0 0
def okCore (ps:List Pick) (b:Int) (c:Nat):Bool:=decide (longest ps 2 c < b) && decide (longest ps 3 c < b)
def fair (ps:List Pick) (cores b:Int):Bool:=(range cores.toNat).all (okCore ps b)
def pk (kind:Int) (c:Nat):Pick:=⟨kind,c,0,⟨0,0,0,0,0⟩,0,0⟩
def line (kind:Int) (c:Nat):List Pick:=(range c).map (pk kind)
def lines (c:Nat) (kinds:List Int):List Pick:=kinds.flatMap fun k=>line k c
def turns (c n:Nat):List Pick:=(range n).flatMap fun _=>lines c [3,2]
def rounds (cores n:Int):List Pick:=if cores < 1\/cores > 8\/n < 0\/n > 500 then [] else turns cores.toNat n.toNat
theorem line_len (kind:Int) (c:Nat):(line kind c).length = c:=by simp [line]
theorem line_succ (kind:Int) (c:Nat):line kind (c + 1) = line kind c++[pk kind c]:=by simp [line,List.range_succ]
theorem turns_succ (c n:Nat):turns c (n + 1) = turns c n++lines c [3,2]:=by simp [turns,List.range_succ]
theorem lines_len (c:Nat):∀ (ks:List Int),(lines c ks).length = ks.length * c
 | []=>by simp [lines]
 | k::ks=>by
  have:=lines_len c ks
  simp only [lines,List.flatMap_cons,length_append,line_len,List.length_cons,succ_mul] at this ⊢
  omega
theorem turns_len (c n:Nat):(turns c n).length = n * (2 * c):=by
 induction n with
 | zero=>simp [turns]
 | succ n ih=>rw [turns_succ,length_append,ih,lines_len,Nat.add_mul n 1,Nat.one_mul]; rfl
end Fair
theorem sp_fair_Longest (s:Sl) (ps:List Pick) (kind core:Int) (hb:ps.length < 2 ^ 40):Sp prog oP [sv s,.int .i64 kind,.int .i64 core] eA [vK s ps] (fun r=>pa_ (r = Fair.longest ps kind core) [vK s ps]):=by
 intro h s0
 have hl:=(ci (j:=0) s0 rfl).1
 refine sim_fair_Longest _ _ _ ?_
 unfold sh_fair_Longest
 refine Lp.intro (fun (z:Int × Int × Int) h=>∃ n:Nat,z.2.2 = n/\n <= ps.length/\Fair.longFrom kind core (ps.drop n) z.1 z.2.1 = Fair.longest ps kind core/\aE [vK s ps] h) (fun (z:Int × Int × Int) _=>ps.length - z.2.2.toNat) ⟨0,rfl,zero_le _,rfl,s0⟩ ?_
 rintro ⟨best,now,i⟩ h ⟨n,rfl,hn,he,s1⟩
 unfold rp
 simp only at he ⊢
 refine aY (fun k=>?_) (fun k=>?_)
 ·have hlt:n < ps.length:=by rw [hl] at k; simpa using k
  have hw:i64.wrap ((n:Int) + 1) = ((n + 1:Nat):Int):=by rw [bN (by omega) (by omega)]; rfl
  rw [List.drop_eq_getElem_cons hlt,Fair.longFrom] at he
  refine dn s1 (j:=0) rfl (by omega) (by omega) fun q hq=>?_
  refine dT (j:=0) (i:=n) (k:=0) ps[n] pick_len s1 rfl hq rfl (aD hlt) (by simp) ?_
  rw [hw]
  refine aY (fun k2=>?_) (fun k2=>?_)
  ·have k2':ps[n].fKind = kind/\ps[n].fQa = core:=by simpa using k2
   rw [if_pos k2'] at he
   exact ⟨⟨n + 1,rfl,hlt,he,s1⟩,by simp; omega⟩
  ·have k2':¬ (ps[n].fKind = kind/\ps[n].fQa = core):=by simpa using k2
   rw [if_neg k2'] at he
   exact ⟨⟨n + 1,rfl,hlt,he,s1⟩,by simp; omega⟩
 ·have:n = ps.length:=by rw [hl] at k; simp at k; omega
  subst this
  rw [List.drop_length] at he
  exact aX he s1
theorem sp_fair_Fair (s:Sl) (ps:List Pick) (cores b:Int) (hb:ps.length < 2 ^ 40) (hc:cores < 2 ^ 62):Sp prog n_fair_Fair [sv s,.int .i64 cores,.int .i64 b] aB [vK s ps] (fun r=>pa_ (r = Fair.fair ps cores b) [vK s ps]):=by
 intro h s0
 refine sim_fair_Fair _ _ _ ?_
 unfold sh_fair_Fair
 refine Lp.intro (fun (i:Int) h=>∃ n:Nat,i = n/\n <= cores.toNat/\(∀ c,c < n->Fair.okCore ps b c = true)/\aE [vK s ps] h) (fun (i:Int) _=>cores.toNat - i.toNat) ⟨0,rfl,zero_le _,fun c hc=>by omega,s0⟩ ?_
 rintro i h ⟨n,rfl,hn,ho,s1⟩
 unfold xp
 refine aY (fun k=>?_) (fun k=>?_)
 ·have hlt:n < cores.toNat:=by have:=of_decide_eq_true k; omega
  have hw:i64.wrap ((n:Int) + 1) = ((n + 1:Nat):Int):=by rw [bN (by omega) (by omega)]; rfl
  have no:Fair.okCore ps b n = false->Fair.fair ps cores b = false:=fun hf=>by
   unfold Fair.fair
   cases ha:(range cores.toNat).all (Fair.okCore ps b) with
   | false=>rfl
   | true=>rw [all_eq_true.1 ha n (mem_range.2 hlt)] at hf; cases hf
  refine bQ (sp_fair_Longest s ps 2 n hb) (i:=0) rfl s1 fun r h2 hr s2=>?_
  subst hr
  refine aY (fun k2=>?_) (fun k2=>?_)
  ·have k2':Fair.longest ps 2 n < b:=by simpa using k2
   refine bQ (sp_fair_Longest s ps 3 n hb) (i:=0) rfl s2 fun r h3 hr s3=>?_
   subst hr
   refine aY (fun k3=>?_) (fun k3=>?_)
   ·have k3':¬ Fair.longest ps 3 n < b:=by simp at k3; omega
    exact aX (no (by simp [Fair.okCore,k3'])).symm s3
   ·have k3':Fair.longest ps 3 n < b:=by simp at k3; omega
    rw [hw]
    refine ⟨⟨n + 1,rfl,hlt,fun c hc=>?_,s3⟩,by simp; omega⟩
    by_cases e:c = n
    ·subst e; simp [Fair.okCore,k2',k3']
    ·exact ho c (by omega)
  ·have k2':¬ Fair.longest ps 2 n < b:=by simp at k2; omega
   exact aX (no (by simp [Fair.okCore,k2'])).symm s2
 ·have:n = cores.toNat:=by have:=of_decide_eq_false k; omega
  subst this
  refine aX ?_ s1
  unfold Fair.fair
  exact (all_eq_true.2 fun c hc=>ho c (mem_range.1 hc)).symm
theorem sp_fair_Rounds (cores n:Int):Sp prog uU [.int .i64 cores,.int .i64 n] oe [] (fun r=>aE [vK r (Fair.rounds cores n)]):=by
 intro h s0
 refine sim_fair_Rounds _ _ ?_
 unfold sh_fair_Rounds
 refine aY (fun k=>?_) (fun k=>?_)
 ·have e1:Fair.rounds cores n = []:=if_pos (by simpa [or_assoc] using k)
  rw [e1]; exact fL s0
 ·have k':¬ (cores < 1\/cores > 8\/n < 0\/n > 500):=by simp at k; omega
  have e1:Fair.rounds cores n = Fair.turns cores.toNat n.toNat:=if_neg k'
  rw [e1]
  obtain ⟨C,rfl⟩:=Int.eq_ofNat_of_zero_le (show 0 <= cores by omega)
  obtain ⟨N,rfl⟩:=Int.eq_ofNat_of_zero_le (show 0 <= n by omega)
  simp only [Int.toNat_natCast]
  refine eN (τ:=Pick) [] (val:=fun x=>.agg x.C.toArray) (enc:=dO.C) el_Sapi_Pick pick_len (fun _=>rfl) s0 rfl rfl (by simp) fun v h1 s1=>?_
  refine Lp.intro (fun (z:Sl × Int) h=>∃ j:Nat,z.2 = j/\j <= N/\aE [vK z.1 (Fair.turns C j)] h) (fun (z:Sl × Int) _=>N - z.2.toNat) ⟨0,rfl,zero_le _,s1⟩ ?_
  rintro ⟨z,i⟩ h ⟨j,rfl,hj,s2⟩
  unfold tv
  refine aY (fun k2=>?_) (fun k2=>?_)
  ·have hlt:j < N:=by have:=of_decide_eq_true k2; simp at this; exact this
   have hw:i64.wrap ((j:Int) + 1) = ((j + 1:Nat):Int):=by rw [bN (by omega) (by omega)]; rfl
   have htl:=Fair.turns_len C j
   have hC:C <= 8:=by omega
   have hjb:j * (2 * C) <= 500 * 16:=Nat.mul_le_mul (by omega) (by omega)
   refine eN (τ:=Int) [3,2] (val:=fun x=>.int .i64 x) (enc:=cI .i64) xA (cR _) (fun _=>rfl) s2 rfl rfl (by decide) fun vk h3 s3=>?_
   have hvl:=(ci (j:=0) s3 rfl).1
   refine Lp.intro (fun (y:Sl × Int) h=>∃ m:Nat,y.2 = m/\m <= 2/\aE [vK y.1 (Fair.turns C j++Fair.lines C (([3,2]:List Int).take m)),vec kR 1 (cI .i64) vk [3,2]] h) (fun (y:Sl × Int) _=>2 - y.2.toNat) ⟨0,rfl,zero_le _,by
    have s4:=bc (m:=[vK z (Fair.turns C j),vec kR 1 (cI .i64) vk [3,2]]) [1] s3 rfl
    simpa [Fair.lines] using s4⟩ ?_
   rintro ⟨y,i2⟩ h ⟨m,rfl,hm,s4⟩
   unfold tu
   refine aY (fun k3=>?_) (fun k3=>?_)
   ·have hlt2:m < 2:=by rw [hvl] at k3; have:=of_decide_eq_true k3; simp at this; omega
    have hw2:i64.wrap ((m:Int) + 1) = ((m + 1:Nat):Int):=by rw [bN (by omega) (by omega)]; rfl
    have hkl:m < ([3,2]:List Int).length:=hlt2
    refine dn s4 (j:=1) rfl (by omega) (by simp; omega) fun q hq=>?_
    refine dT (j:=1) (i:=m) (k:=0) ([3,2]:List Int)[m] (cR _) s4 rfl hq (by simp) (aD hkl) (by simp) ?_
    have hll:=Fair.lines_len C (([3,2]:List Int).take m)
    have hlb:(([3,2]:List Int).take m).length * C <= 2 * 8:=Nat.mul_le_mul (by simp; omega) (by omega)
    refine Lp.intro (fun (x:Sl × Int) h=>∃ p:Nat,x.2 = p/\p <= C/\aE [vK x.1 (Fair.turns C j++Fair.lines C (([3,2]:List Int).take m)++Fair.line ([3,2]:List Int)[m] p),vec kR 1 (cI .i64) vk [3,2]] h) (fun (x:Sl × Int) _=>C - x.2.toNat) ⟨0,rfl,zero_le _,by simpa [Fair.line] using s4⟩ ?_
    rintro ⟨x,i3⟩ h ⟨p,rfl,hp,s5⟩
    have hpl:=Fair.line_len ([3,2]:List Int)[m] p
    unfold tt
    refine aY (fun k4=>?_) (fun k4=>?_)
    ·have hlt3:p < C:=by have:=of_decide_eq_true k4; simp at this; exact this
     have hw3:i64.wrap ((p:Int) + 1) = ((p + 1:Nat):Int):=by rw [bN (by omega) (by omega)]; rfl
     refine kC (τ:=Pick) (i:=0) (enc:=dO.C) (val:=fun x=>.agg x.C.toArray) (x:=Fair.pk ([3,2]:List Int)[m] p) el_Sapi_Pick pick_len pick_one (fun _=>rfl) (by omega) rfl rfl s5 rfl (by simp only [length_append]; omega) (by simp only [length_append]; omega) fun v h6 s6=>?_
     rw [hw3]
     refine ⟨⟨p + 1,rfl,hlt3,?_⟩,by simp; omega⟩
     rw [Fair.line_succ,← List.append_assoc]
     exact s6
    ·have:p = C:=by have:=of_decide_eq_false k4; simp at this; omega
     subst this
     rw [hw2]
     refine ⟨⟨m + 1,rfl,hlt2,?_⟩,by simp; omega⟩
     have et:([3,2]:List Int).take (m + 1) = ([3,2]:List Int).take m++[([3,2]:List Int)[m]]:=by rw [List.take_add_one,aD hkl]; rfl
     have el:Fair.lines p (([3,2]:List Int).take (m + 1)) = Fair.lines p (([3,2]:List Int).take m)++Fair.line ([3,2]:List Int)[m] p:=by
      rw [et]; unfold Fair.lines; rw [List.flatMap_append]; simp
     rw [el,← List.append_assoc]
     exact s5
   ·have:m = 2:=by rw [hvl] at k3; have:=of_decide_eq_false k3; simp at this; omega
    subst this
    rw [hw]
    refine ⟨⟨j + 1,rfl,hlt,?_⟩,by simp; omega⟩
    rw [Fair.turns_succ]
    exact nH (l:=[vK y (Fair.turns C j++Fair.lines C [3,2])]) s4
  ·have:j = N:=by have:=of_decide_eq_false k2; simp at this; omega
   subst this
   exact s2
end
section
open Go Mb
def wl (a0:Sl) (a1:Int) (K:Sl->Hp->Prop) (Rec2:(Sl × Int)->Hp->Prop) (s1:Sl × Int):Hp->Prop:=br (decide (s1.2 < (a0.len:Int))) ( ix a0 s1.2 fun q12=>ld (q12.1,q12.2 + Int.toNat s1.2 * 16) aF.C fun x13=>br ((x13.fCa == a1) && (decide (x13.fYa > 0))) ( hpv prog (Instr.buildSlice mO 1 #[(0,(.agg (ab.C x13.fVa).toArray))]) mZ fun (v26:Sl)=>hpv prog (Builtin.append_ #[mO,mO] mO #[(sv s1.1),(sv v26)]) mZ fun (v27:Sl)=>Rec2 (v27,(i64.wrap (s1.2 + 1)))) ( Rec2 (s1.1,(i64.wrap (s1.2 + 1))))) ( K s1.1)
def sh_twin_View (a0:Sl) (a1:Int) (K:Sl->Hp->Prop):Hp->Prop:=Lp (wl a0 a1 K) ((⟨none,0,0,none⟩:Sl),0)
theorem sim_twin_View (a0:Sl) (a1:Int) {K:Sl->Hp->Prop} {h:Hp} (H:sh_twin_View a0 a1 K h):cl prog n_twin_View [(sv a0),(.int .i64 a1)] mZ K h:=z_i func52 p p fun _=>O<|U p<|O<|U p<|am<|O<|M p<|J (dv p underlying42 p)<|M p<|ae<|az<|bC (step:=wl a0 a1 K) (fun s1=>[(1,(.int .i64 a1)),(5,(sv s1.1)),(8,(sv a0)),(9,(.int .i64 (a0.len:Int))),(10,(.int .i64 s1.2))]) (fun s1=>[]) H (.cons p<|.cons p<|.cons p<|.cons p<|.cons p<|.nil _) .slnil fun Rec2 s1 _ H3=>O<|J (cu p p)<|ae<|am<|aw p H3 (fun k4 H5=>ap<|am<|az<|O<|ch H5 fun q12 e6 h7 H8=>J (bm re (aM p<|ba e6) p h7)<|aa<|gA H8 ag_56 p (fun _=>p) p fun x13 H9=>aa<|aN (l:=aF.C (⟨0,0,(⟨0,0,0,0,0⟩:ai),0,0,0,(⟨0,0⟩:ab),(⟨0,0,0,0⟩:ao)⟩:aF)) zero_56 p p fun b7=>aa<|aQ (k:=0) (vs:=aF.C x13) inf_56 p p p p p p p<|ae<|O<|J (ah oU p)<|bi (be (k:=0) bb p p p) p<|M p<|J (bR p p)<|M p<|W p p (ay _) (fun g10=>wv<|ah qV p)<|W p p (ay _) (fun g11=>cv<|be (k:=0) bb (aC p g11) p p)<|W p p (ay _) (fun g12=>wv<|qA (aC p g12) p)<|J (bP p p)<|ae<|aw p H9 (fun k13 H14=>aq<|M p<|J (ah gK p)<|bi (bD (k:=0) cz p p p p) p<|aa<|aS H14 (bt (vs:=[(.agg (ab.C x13.fVa).toArray)]) p) p fun v26 _ H15=>aa<|aS H15 (dG p p) p fun v27 _ H16=>U p<|aq<|J (bo p p)<|M p<|ae<|cL (v27,(i64.wrap (s1.2 + 1))) H16 (.cons p<|.cons p<|.cons p<|.cons p<|.cons p<|.nil _)<|.cons _ .slnil) fun k13 H14=>ap<|aq<|J (bo p p)<|M p<|ae<|cL (s1.1,(i64.wrap (s1.2 + 1))) H14 (.cons p<|.cons p<|.cons p<|.cons p<|.cons p<|.nil _)<|.cons _ .slnil) fun k4 H5=>bj<|O<|M p<|U p<|ak<|Z ⟨s1.1,p,H5⟩
end
section
open Go Mb
abbrev vA (s:Sl) (xs:List dZ):As:=vec t_api_Answer 2 ab.C s xs
theorem ans_len (p:dZ):p.C.length = 2:=rfl
theorem ans_one (p:dZ):dA p.C = true:=rfl
namespace Twin
def view (env:Int):List bk->List dZ
 | []=>[]
 | e::es=>if e.fCa = env/\e.fYa > 0 then e.fVa::view env es else view env es
def same:List dZ->List dZ->Bool
 | [],[]=>true
 | a::l,b::r=>ab.eqb a b && same l r
 | _,_=>false
theorem view_app (env:Int) (e:bk):∀ es,view env (es++[e]) = view env es++(if e.fCa = env/\e.fYa > 0 then [e.fVa] else [])
 | []=>by simp only [List.nil_append,view]
 | d::es=>by
  simp only [List.cons_append,view,view_app env e es]
  split <;> simp
theorem view_len (env:Int):∀ es,(view env es).length <= es.length
 | []=>le_refl _
 | e::es=>by unfold view; have:=view_len env es; split <;> simp <;> omega
end Twin
theorem sp_twin_View (s:Sl) (es:List bk) (env:Int) (hb:es.length < 2 ^ 38):Sp prog n_twin_View [sv s,.int .i64 env] mZ [vE s es] (fun r=>aE [vA r (Twin.view env es),vE s es]):=by
 intro h s0
 have hl:=(ci (j:=0) s0 rfl).1
 refine sim_twin_View _ _ ?_
 unfold sh_twin_View
 refine Lp.intro (fun (z:Sl × Int) h=>∃ n:Nat,z.2 = n/\n <= es.length/\aE [vA z.1 (Twin.view env (es.take n)),vE s es] h) (fun (z:Sl × Int) _=>es.length - z.2.toNat) ⟨0,rfl,zero_le _,fL s0⟩ ?_
 rintro ⟨z,i⟩ h ⟨n,rfl,hn,s1⟩
 unfold wl
 refine aY (fun k=>?_) (fun k=>?_)
 ·have hlt:n < es.length:=by rw [hl] at k; simpa using k
  have hw:i64.wrap ((n:Int) + 1) = ((n + 1:Nat):Int):=by rw [bN (by omega) (by omega)]; rfl
  have ht:es.take (n + 1) = es.take n++[es[n]]:=by simp
  refine dn s1 (j:=1) rfl (by omega) (by show (n:Int) < _; omega) fun q hq=>?_
  refine dT (j:=1) (i:=n) (k:=0) es[n] mE s1 rfl hq rfl (aD hlt) (by simp) ?_
  rw [hw]
  refine aY (fun k2=>?_) (fun k2=>?_)
  ·have k2':es[n].fCa = env/\es[n].fYa > 0:=by simpa using k2
   have hvl:=Twin.view_len env (es.take n)
   simp at hvl
   refine kC (τ:=dZ) (i:=0) (enc:=ab.C) (val:=fun x=>.agg x.C.toArray) el_Sapi_Answer ans_len ans_one (fun _=>rfl) (by omega) rfl rfl s1 rfl (by omega) (by omega) fun v h2 s2=>?_
   refine ⟨⟨n + 1,rfl,hlt,?_⟩,by simp; omega⟩
   rw [ht,Twin.view_app,if_pos k2']
   exact s2
  ·have k2':¬ (es[n].fCa = env/\es[n].fYa > 0):=by simpa using k2
   refine ⟨⟨n + 1,rfl,hlt,?_⟩,by simp; omega⟩
   rw [ht,Twin.view_app,if_neg k2',List.append_nil]
   exact s1
 ·have:n = es.length:=by rw [hl] at k; simp at k; omega
  subst this
  rw [List.take_length] at s1
  exact s1
end
section
open Go Mb
variable {ET:Nat} {EF:Nat × Nat}
theorem kern_nn {l:List As} {h:Hp} {x:Ptr} {k:KK} (s:aE (cE x k::l) h):x.isNone = false:=nn_of (fun _ e=>by rw [e.1]; rfl) s
namespace B16
abbrev sz:eK:=⟨2,2,3⟩
def r1:=KK.run (KK.new ⟨2,2,3⟩) 0 0 ⟨1,1,0,0,0⟩
def r2:=KK.run r1.2 0 0 ⟨6,4,1,3,0⟩
def r3:=KK.run r2.2 1 0 ⟨21,4,2,9,0⟩
def r4:=KK.run r3.2 0 0 ⟨20,4,2,0,0⟩
def r5:=KK.run r4.2 0 0 ⟨7,4,0,0,0⟩
def es:=r5.2.events
theorem es_len:es.length = 5:=by kernel_rfl
theorem apart:Hist.may es sz = true:=by kernel_rfl
theorem now1:r1.2.now < 1000:=of_decide_eq_true (by kernel_rfl)
theorem now2:r2.2.now < 1000:=of_decide_eq_true (by kernel_rfl)
theorem now3:r3.2.now < 1000:=of_decide_eq_true (by kernel_rfl)
theorem now4:r4.2.now < 1000:=of_decide_eq_true (by kernel_rfl)
theorem now5:r5.2.now < 1000:=of_decide_eq_true (by kernel_rfl)
theorem lin:fLa.linear es sz = (-1,true):=by kernel_rfl
theorem acc:fLa.accesses es sz = (-1,true):=by kernel_rfl
theorem rgt:fLa.right es sz = true:=by kernel_rfl
end B16
theorem ord20 {es:List bk} (s:Sl) (h:es.length <= 20):Hist.Apart es->OrdOk s es:=fun ha=>sp_hist_Order20 s es h ha
theorem sp_begun16:Sp prog kH [] aB [(etB ET EF)] (fun r=>pa_ (r = true) [(etB ET EF)]):=by
 intro h st
 refine vj ?_
 unfold oA
 refine lJ (sp_kern_New ⟨2,2,3⟩ (by decide)) st fun x h1 s1=>?_
 refine dp (kern_nn s1) ?_
 refine bQ (i:=0) (sp_Run x _ 0 0 ⟨1,1,0,0,0⟩ (by decide)) rfl s1 fun a1 h2 e1 s2=>?_
 refine bQ (i:=0) (sp_Run x B16.r1.2 0 0 ⟨6,4,1,3,0⟩ (by have:=B16.now1; omega)) rfl s2 fun a2 h3 e2 s3=>?_
 refine bQ (i:=0) (sp_Run x B16.r2.2 1 0 ⟨21,4,2,9,0⟩ (by have:=B16.now2; omega)) rfl s3 fun a3 h4 e3 s4=>?_
 refine bQ (i:=0) (sp_Run x B16.r3.2 0 0 ⟨20,4,2,0,0⟩ (by have:=B16.now3; omega)) rfl s4 fun a4 h5 e4 s5=>?_
 refine bQ (i:=0) (sp_Run x B16.r4.2 0 0 ⟨7,4,0,0,0⟩ (by have:=B16.now4; omega)) rfl s5 fun a5 h6 e5 s6=>?_
 refine xB (i:=0) (sF x B16.r5.2 (by have:=B16.now5; omega)) rfl s6 fun s h7 s7=>?_
 have hes:B16.es.length < 2 ^ 38:=by rw [B16.es_len]; decide
 have hes20:B16.es.length <= 20:=by rw [B16.es_len]; decide
 refine bQ (i:=0) (sp_judge_Linear s B16.es B16.sz (by decide) hes (ord20 s hes20)) rfl s7 fun r1 h8 f1 s8=>?_
 refine bQ (i:=0) (sp_judge_Access s B16.es B16.sz (by decide) hes (ord20 s hes20)) rfl s8 fun r2 h9 f2 s9=>?_
 refine lJ (sp_fair_Rounds 2 3) s9 fun t h10 s10=>?_
 refine bQ (i:=3) sp_Begun11 rfl s10 fun r3 h11 f3 s11=>?_
 have hl:((s.len:Int) == 5) = true:=by rw [(ci (j:=1) s11 rfl).1]; kernel_rfl
 have htl:((t.len:Int) == 12) = true:=by rw [(ci (j:=0) s11 rfl).1]; kernel_rfl
 have g1:a1 = B16.r1.1:=e1.1
 have g2:a2 = B16.r2.1:=e2.1
 have g3:a3 = B16.r3.1:=e3.1
 have g4:a4 = B16.r4.1:=e4.1
 have g5:a5 = B16.r5.1:=e5.1
 rw [B16.lin] at f1
 rw [B16.acc] at f2
 rw [f1,f2,f3,g1,g2,g3,g4,g5,hl]
 refine dN (by kernel_rfl) ?_
 refine bQ (i:=1) (sp_hist_May s B16.es B16.sz hes) rfl s11 fun r4 h12 f4 s12=>?_
 refine dN (f4.trans B16.apart) ?_
 refine xB (i:=1) (sp_hist_Order20 s B16.es hes20 (Hist.may_apart B16.apart)) rfl s12 fun o h13 s13=>?_
 have hol:((o.len:Int) == 5) = true:=by rw [(ci (j:=0) s13 rfl).1]; kernel_rfl
 refine dN (by rw [hol,htl]; rfl) ?_
 refine bQ (i:=1) (sp_fair_Fair t _ 2 5 (by decide) (by decide)) rfl s13 fun r5 h14 f5 s14=>?_
 refine dN (f5.trans (by kernel_rfl)) ?_
 refine xB (i:=2) (sp_twin_View s B16.es 0 hes) rfl s14 fun v h15 s15=>?_
 have hvl:((v.len:Int) == 5) = true:=by rw [(ci (j:=0) s15 rfl).1]; kernel_rfl
 refine dN hvl ?_
 refine bQ (i:=3) (sp_judge_Right s B16.es B16.sz (by decide) hes (ord20 s hes20)) rfl s15 fun r6 h16 f6 s16=>?_
 exact aX (f6.trans B16.rgt) (cd (l:=[_,_,_,_,_]) s16)
end
section
open Go Mb Go.ChangeShapes Go.WideShapes Go.RowKit
theorem Tryz.own:ownKnob prog.godebug = none:=by kernel_rfl
theorem Tryz.et:prog.globalNamed "errors.errorType" = some 0:=by kernel_rfl
theorem Tryz.rt:(prog.cutTypes.find? (·.1 == "internal/reflectlite.rtype")).map (·.2) = some rv:=by kernel_rfl
abbrev laid:List (String × DataW Unit) := [("errors.errorType",Rows.laid_errors_errorType)]
theorem block_of_laid {W:World} (h:laidMetH prog laid W):∃ T F,W.heap[0]? = some (.cells #[rtV gq] T F):=by
 have h':laidMet prog [] W/\handlesMet prog laid W:=h
 obtain ⟨name,u,ty,e1,e2,e3,e4,e5⟩:=h'.2 _ (List.mem_singleton.2 rfl)
 have en:name = [101,114,114,111,114]:=(Option.some.inj e1).symm
 subst en
 obtain rfl:=Option.some.inj (Tryz.rt.symm.trans e2)
 have hm:ty ∈ (range 351).filter fun t=>prog.rowNamed t [101,114,114,111,114]:=List.mem_filter.2 ⟨mem_range.2 (by rw [← g4]; exact e3),e4⟩
 rw [oneErr] at hm
 obtain rfl:=List.mem_singleton.1 hm
 have hh:typeHandle prog 199 = .pointer (some ⟨4,199,none⟩):=by kernel_rfl
 rw [hh] at e5
 unfold World.var? at e5
 rw [Tryz.et] at e5
 simp only [Option.bind_some] at e5
 split at e5
 ·rename_i cs T F hq
  cases e5
  exact ⟨T,F,hq⟩
 ·cases e5
noncomputable def laidWorld (os:Os):World :=
 let w0:=World.holding prog os ⟨#[],#[],[]⟩
 { w0 with heap:=w0.heap.modify 0 fun
   | .cells _ t frozen=>.cells #[rtV gq] t frozen
   | o=>o }
theorem laidWorld_met (os:Os) (args:Array Value):laidMetH prog laid ((laidWorld os).forCall (fun _ _=>0) ⟨#[],args,[]⟩).memory :=
 laidMetH_of_parts (laidMet_nil _ _) (by kernel_rfl)
theorem keptBut_same {w w':World} {may:MemPlace->Prop} (h1:w'.os = w.os) (h2:w'.output = w.output) (h:∀ i,i < w.heap.size->w'.heap[i]? = w.heap[i]?):w.keptBut w' may:=by
 refine ⟨h1,h2,fun i hi=>?_⟩
 have:=(World.keptBut_refl w may).2.2 i hi
 rw [h i hi]
 exact this
def kindsB (P:Program) (fn:Func) (c:OpenClaim):Bool:=c.kinds == (if c.domain.isEmpty then [] else fn.params.toList.map fun t=>match P.underlying t with | some (.int k)=>some k | _=>none)
theorem joined_split {P:Program} {f:FuncId} {fn:Func} {s:ChangeSpec} {c:OpenClaim} (h1:(c.wf (OpenSpec.ofChange s) && laidOutB P && mapsRowed P) = true)
  (h2:(fn.params.all (P.readableRec ·) && namedTie P c.named s.vars && (c.stops == []) && (P.stops == []) && (c.knobs == []) && (P.stopKnobs == [])) = true)
  (h3:(c.inPlace == P.inPlace f) = true) (h4:(c.unfollowed == P.unfollowed f) = true) (h5:(c.recurses == P.recurses f) = true) (h6:(c.named == P.varsNamed f) = true)
  (h7:((c.maps == (fn.params.toList++s.plain.varTypes P).any (P.mapsRec ·)) && (c.ifaces == (fn.params.toList++s.plain.varTypes P).any (P.ifacesRec ·)) && (c.mapsOut == P.mapsAmong fn.resultTypes.toList) &&
 (c.loops == (fn.params.toList++s.plain.varTypes P).any (P.loopsFrom ·)) && (c.wideKeys == (fn.params.toList++s.plain.varTypes P++fn.resultTypes.toList).any (P.wideKeysFrom ·)) &&
 s.vars.all (P.varReadable ·) && fn.resultTypes.all (fun t=>P.readableRec t && decide (t < P.types.size)) && (c.ifacesOut == fn.resultTypes.toList.any (P.ifacesRec ·)) && (c.loopsOut == fn.resultTypes.toList.any (P.loopsFrom ·))) = true)
  (h8:(c.plainKeys == P.plainKeys) = true) (h9:(c.shortTexts.isNone && P.stopsHeard && P.mayEnter && (c.lifted == P.liftsFinal) && (P.make == some c.make) && kindsB P fn c && (c.pinned == c.pinnedBy) &&
 (c.veiled == (fn.params.toList++s.plain.varTypes P++fn.resultTypes.toList).any (P.veiledRec ·)) && c.veiledFits P fn.params.toList (fn.params.toList++s.plain.varTypes P++fn.resultTypes.toList)) = true):joinedFacts P f fn s c = true:=by
 unfold joinedFacts
 unfold kindsB at h9
 rw [and_eq_true] at h1 h2 h7 h9
 simp only [and_eq_true] at h1 h2 h7 h9
 obtain ⟨⟨a1,a2⟩,a3⟩:=h1
 obtain ⟨⟨⟨⟨⟨b1,b2⟩,b3⟩,b4⟩,b5⟩,b6⟩:=h2
 obtain ⟨⟨⟨⟨⟨⟨⟨⟨c1,c2⟩,c3⟩,c4⟩,c5⟩,c6⟩,c7⟩,c8⟩,c9⟩:=h7
 obtain ⟨⟨⟨⟨⟨⟨⟨⟨d1,d2⟩,d3⟩,d4⟩,d5⟩,d6⟩,d7⟩,d8⟩,d9⟩:=h9
 simp only [and_eq_true]
 exact ⟨⟨⟨⟨⟨⟨⟨⟨⟨⟨⟨⟨⟨⟨⟨⟨⟨⟨⟨⟨⟨⟨⟨⟨⟨⟨⟨⟨⟨⟨⟨a1,a2⟩,a3⟩,b1⟩,b2⟩,b3⟩,b4⟩,b5⟩,b6⟩,h3⟩,h4⟩,h5⟩,h6⟩,c1⟩,c2⟩,c3⟩,c4⟩,c5⟩,c6⟩,c7⟩,c8⟩,c9⟩,h8⟩,d1⟩,d2⟩,d3⟩,d4⟩,d5⟩,d6⟩,d7⟩,d8⟩,d9⟩
end
section
open Go Mb Go.ChangeShapes Go.WideShapes Go.RowKit
inductive FK where
 | i (k:IntKind)
 | b
def FK.ok:FK->Value->Prop
 | .i k,v=>∃ n,v = .int k n/\(Lit.int k n).wf = true
 | .b,v=>∃ x,v = .bool x
def tK:List FK->List Value->Prop
 | [],[]=>True
 | k::ks,v::vs=>k.ok v/\tK ks vs
 | _,_=>False
theorem tK.app:∀ {ks ls:List FK} {vs ws:List Value},tK ks vs->tK ls ws->tK (ks++ls) (vs++ws)
 | [],_,[],_,_,h=>h
 | _::_,_,_::_,_,h,g=>⟨h.1,h.2.app g⟩
 | [],_,_::_,_,h,_=>h.elim
 | _::_,_,[],_,h,_=>h.elim
theorem tK.len:∀ {ks:List FK} {vs:List Value},tK ks vs->vs.length = ks.length
 | [],[],_=>rfl
 | _::_,_::_,h=>by simp [h.2.len]
 | [],_::_,h=>h.elim
 | _::_,[],h=>h.elim
def fldK (P:Program) (r:TypeId->Option (List FK)):Nat->List Field->Option (List FK)
 | _,[]=>some []
 | o,f::fs=>if f.offset = o then (r f.type).bind fun ks=>if ks.length = P.cellsOf f.type then (fldK P r (o + ks.length) fs).map (ks++·) else none else none
def flatK (P:Program):Nat->TypeId->Option (List FK)
 | 0,_=>none
 | n + 1,t=>match P.underlying t with
  | some (.int k)=>some [.i k]
  | some .bool=>some [.b]
  | some (.struct fs)=>(fldK P (flatK P n) 0 fs.toList).bind fun ks=>if ks.length = P.cellsOf t then some ks else none
  | some (.array m e)=>(flatK P n e).bind fun ks=>if ks.length = P.cellsOf e/\m * ks.length = P.cellsOf t then some (replicate m ks).flatten else none
  | _=>none
section
variable {H:Type} {enc:TypeId × Value->H} {P:Program} {W:World} {base:Nat} {sp:Nat->Bool} {held:Bool}
theorem trod_array {t e m fuel:Nat} {cs:List Value} {x:DataW H × List MemPlace} (ht:P.underlying t = some (.array m e)) (h:DataW.trod enc P W base sp held fuel t cs = some x) :
  ∃ (xs:List (DataW H × List MemPlace)) (n:Nat),fuel = n + 1/\x = (.agg (xs.map (·.1)),xs.flatMap (·.2))/\cs.length = P.cellsOf t/\xs.length = m /\
   ∀ i,i < m->DataW.trod enc P W base sp held n e ((cs.drop (i * P.cellsOf e)).take (P.cellsOf e)) = xs[i]?:=by
 cases fuel with
 | zero=>simp [DataW.trod] at h
 | succ n =>
  unfold DataW.trod at h
  rw [ht] at h
  split at h <;> simp_all
  obtain ⟨hl,xs,hp,hd⟩:=h
  refine ⟨xs,hd.symm,by simpa using mapM_some_length hp,fun i hi=>mapM_some_get hp i i (by simp [hi])⟩
theorem flatMap_nil {α β:Type} {f:α->List β} {xs:List α} (h:∀ x ∈ xs,f x = []):xs.flatMap f = []:=by
 rw [List.flatMap_eq_nil_iff]; exact h
theorem take_drop_take (cs:List Value) (o n:Nat):(cs.drop o).take n++cs.drop (o + n) = cs.drop o:=by
 rw [← drop_drop,take_append_drop]
theorem fld_fits {r:TypeId->Option (List FK)} {cs:List Value} {g:TypeId->List Value->Option (DataW H × List MemPlace)} (hr:∀ t ks cs x,r t = some ks->g t cs = some x->tK ks cs/\x.2 = []) :
  ∀ (fs:List Field) (o:Nat) (ks:List FK),fldK P r o fs = some ks->(∀ f ∈ fs,∃ x,g f.type ((cs.drop f.offset).take (P.cellsOf f.type)) = some x)->o + ks.length = cs.length->tK ks (cs.drop o)
 | [],o,ks,h,_,hl=>by
  simp only [fldK,Option.some.injEq] at h
  subst h
  have:cs.drop o = []:=List.drop_eq_nil_of_le (by simp at hl; omega)
  rw [this]; trivial
 | f::fs,o,ks,h,hx,hl=>by
  unfold fldK at h
  split at h
  ·rename_i ho
   obtain ⟨ks1,h1,h2⟩:=bind_eq_some_iff.1 h
   split at h2
   ·rename_i hc
    obtain ⟨ks2,h3,rfl⟩:=Option.map_eq_some_iff.1 h2
    obtain ⟨x,hx1⟩:=hx f (by simp)
    have f1:=(hr _ _ _ _ h1 hx1).1
    have f2:=fld_fits hr fs (o + ks1.length) ks2 h3 (fun f' hf'=>hx f' (by simp [hf'])) (by simp at hl; omega)
    rw [ho,← hc] at f1
    have:=f1.app f2
    rwa [take_drop_take] at this
   ·cases h2
  ·cases h
theorem arr_fits {ks:List FK} {c:Nat} (hc:ks.length = c):∀ (m:Nat) (cs:List Value),cs.length = m * c->(∀ i,i < m->tK ks ((cs.drop (i * c)).take c))->tK (replicate m ks).flatten cs
 | 0,cs,hl,_=>by
  have:cs = []:=List.eq_nil_of_length_eq_zero (by simpa using hl)
  subst this; trivial
 | m + 1,cs,hl,h=>by
  rw [List.replicate_succ,List.flatten_cons]
  have h0:=h 0 (by omega)
  simp only [Nat.zero_mul,List.drop_zero] at h0
  have h1:=arr_fits hc m (cs.drop c) (by rw [List.length_drop,hl,succ_mul]; omega) (fun i hi=>by
   have:=h (i + 1) (by omega)
   rwa [drop_drop,Nat.add_comm,← succ_mul])
  have:=h0.app h1
  rwa [take_append_drop] at this
theorem trod_flat:∀ (n t:Nat) (ks:List FK),flatK P n t = some ks->∀ (fuel:Nat) (cs:List Value) (x:DataW H × List MemPlace),DataW.trod enc P W base sp held fuel t cs = some x->tK ks cs/\x.2 = []
 | 0,_,_,h,_,_,_,_=>by cases h
 | n + 1,t,ks,h,fuel,cs,x,hx=>by
  have ih:=trod_flat n
  unfold flatK at h
  split at h
  ·rename_i k hu
   cases h
   obtain ⟨m,rfl,rfl,hw⟩:=DataW.trod_int hu hx
   exact ⟨⟨⟨m,rfl,hw⟩,trivial⟩,rfl⟩
  ·rename_i hu
   cases h
   obtain ⟨b,rfl,rfl⟩:=DataW.trod_bool hu hx
   exact ⟨⟨⟨b,rfl⟩,trivial⟩,rfl⟩
  ·rename_i fs hu
   obtain ⟨ks',h1,h2⟩:=bind_eq_some_iff.1 h
   split at h2
   ·rename_i hc
    cases h2
    obtain ⟨xs,f,rfl,rfl,hl,hxl,hi⟩:=DataW.trod_struct hu hx
    have hall:∀ fl ∈ fs.toList,∃ x,DataW.trod enc P W base sp held f fl.type ((cs.drop fl.offset).take (P.cellsOf fl.type)) = some x:=by
     intro fl hfl
     obtain ⟨i,hi1,hi2⟩:=List.getElem_of_mem hfl
     have:=hi i fl (by rw [← Array.getElem?_toList,getElem?_eq_getElem hi1,hi2])
     have hlt:i < xs.length:=by rw [hxl]; simpa using hi1
     rw [getElem?_eq_getElem hlt] at this
     exact ⟨_,this⟩
    refine ⟨?_,flatMap_nil fun y hy=>?_⟩
    ·have:=fld_fits (P:=P) (cs:=cs) (fun t ks cs x h=>ih t ks h f cs x) fs.toList 0 ks h1 hall (by rw [hc,hl]; omega)
     simpa using this
    ·obtain ⟨i,hi1,rfl⟩:=List.getElem_of_mem hy
     have hif:i < fs.size:=by rw [← hxl]; exact hi1
     have h3:=hi i fs[i] (by simp [hif])
     rw [getElem?_eq_getElem hi1] at h3
     have key:∀ (l:List Field) (o:Nat) (ks:List FK),fldK P (flatK P n) o l = some ks->∀ fl ∈ l,∃ ks,flatK P n fl.type = some ks:=by
      intro l
      induction l with
      | nil=>intro _ _ _ fl h; cases h
      | cons a l ihl =>
       intro o ks hk fl hfl
       unfold fldK at hk
       split at hk
       ·obtain ⟨k1,hk1,hk2⟩:=bind_eq_some_iff.1 hk
        rcases mem_cons.1 hfl with rfl | hfl
        ·exact ⟨_,hk1⟩
        ·split at hk2
         ·obtain ⟨k2,hk3,_⟩:=Option.map_eq_some_iff.1 hk2
          exact ihl _ _ hk3 fl hfl
         ·cases hk2
       ·cases hk
     obtain ⟨ks2,hks2⟩:=key _ _ _ h1 fs[i] (by simp)
     exact (ih _ _ hks2 _ _ _ h3).2
   ·cases h2
  ·rename_i m e hu
   obtain ⟨ks',h1,h2⟩:=bind_eq_some_iff.1 h
   split at h2
   ·rename_i hc
    cases h2
    obtain ⟨xs,f,rfl,rfl,hl,hxl,hi⟩:=trod_array hu hx
    have hat:∀ i,i < m->∃ x,xs[i]? = some x/\DataW.trod enc P W base sp held f e ((cs.drop (i * P.cellsOf e)).take (P.cellsOf e)) = some x:=fun i him=>by
     have:=hi i him
     rw [getElem?_eq_getElem (by omega)] at this
     exact ⟨_,getElem?_eq_getElem (by omega),this⟩
    refine ⟨arr_fits (by exact hc.1) m cs (by rw [hl,← hc.2,hc.1]) (fun i him=>?_),flatMap_nil fun y hy=>?_⟩
    ·obtain ⟨x,_,hx2⟩:=hat i him
     exact (ih _ _ h1 _ _ _ hx2).1
    ·obtain ⟨i,hi1,rfl⟩:=List.getElem_of_mem hy
     obtain ⟨x,hx1,hx2⟩:=hat i (by omega)
     rw [getElem?_eq_getElem hi1] at hx1
     cases hx1
     exact (ih _ _ h1 _ _ _ hx2).2
   ·cases h2
  ·cases h
end
structure Arg {τ:Type} (W:World) (m:Nat) (enc:τ->List Value) (s:Sl) (xs:List τ):Prop where
 len:s.len = xs.length
 cap:s.len <= s.cap
 row:s.cap = 0\/∃ b pre rest U fr,s.a = some (b,pre.length)/\s.cap * m <= s.len * m + rest.length/\s.g = some (pre,rest,U,fr)/\nf fr pre.length (s.cap * m)/\b ≠ 0/\W.heap[b]? = some (.cells (pre++(xs.flatMap enc++rest)).toArray U fr)
section
variable {H:Type} {enc:TypeId × Value->H} {P:Program} {W:World}
theorem has_spot {r:Reach} {b0:Nat} {t e:TypeId} {a:Addr} {len cap:Nat} (ht:P.underlying t = some (.slice e)) (h:Value.okWide P W r b0 t (.slice (some a) len cap)):a.spot = none/\∃ c T fr,W.heap[a.block]? = some (.cells c T fr):=by
 unfold Value.okWide at h
 rw [ht] at h
 unfold Cell.okWide at h
 rw [ht] at h
 simp only at h
 unfold Cell.ok at h
 rw [ht] at h
 simp only at h
 obtain ⟨_,_,_,hs,row,cells,h1,_⟩:=h
 refine ⟨hs,?_⟩
 unfold World.shape? at h1
 split at h1
 ·rename_i c T fr hq
  exact ⟨_,_,_,hq⟩
 ·cases h1
theorem open_arg {τ:Type} {b0 m:Nat} {t e:TypeId} {ks:List FK} {enc':τ->List Value} {v:Value} {d:DataW H} {ps:List MemPlace} {ET:Nat} {EF:Nat × Nat} {X:Value} (ht:P.underlying t = some (.slice e)) (hm:P.cellsOf e = m) (hk:flatK P 9 e = some ks) (hpos:0 < m)
  (dec:∀ cs,tK ks cs->∃ x:τ,enc' x = cs) (hval:Value.okWide P W .any b0 t v) (hd:DataW.Trod enc P W 0 (fun _=>true) true t v d ps) (hz:W.noneFrozen ps)
  (hw:W.heap[0]? = some (.cells #[X] ET EF)) (hX:∀ k,¬ FK.ok k X):∃ (s:Sl) (xs:List τ),v = sv s/\Arg W m enc' s xs:=by
 obtain ⟨a0,len0,lL,rfl⟩:=okWide_slice ht hval
 obtain ⟨fuel,hf⟩:=hd
 rcases Go.Deep.open_slice ht hf with ⟨h1,_⟩ | ⟨a,len,cap,mm,n,D,Pl,h1,_,hl,_,hmm,hx,hi⟩
 ·simp only [Value.cells,List.cons.injEq,Value.slice.injEq,and_true] at h1
  obtain ⟨rfl,rfl,rfl⟩:=h1
  exact ⟨⟨none,0,0,none⟩,[],rfl,rfl,le_refl _,.inl rfl⟩
 ·simp only [Value.cells,List.cons.injEq,Value.slice.injEq,and_true] at h1
  obtain ⟨rfl,rfl,rfl⟩:=h1
  simp only [if_true] at hmm
  subst hmm
  obtain ⟨hs,c,T,fr,hb⟩:=has_spot ht hval
  obtain ⟨b,off,spot⟩:=a
  simp only at hs hb
  subst hs
  by_cases hc0:mm = 0
  ·subst hc0
   obtain rfl:len0 = 0:=by omega
   exact ⟨⟨some (b,off),0,0,none⟩,[],rfl,rfl,le_refl _,.inl rfl⟩
  rw [hm] at hi hx
  have la:∀ i,i < mm->∃ x:τ,(enc' x).length = m/\tK ks (enc' x)/\∀ j,j < m->c.toList[off + i * m + j]? = (enc' x)[j]?:=by
   intro i him
   obtain ⟨cs',h2,h3⟩:=hi i him
   obtain ⟨_,hlen,hget⟩:=World.cells?_some h2
   have hfit:=(trod_flat 9 e ks hk _ _ _ h3).1
   obtain ⟨x,rfl⟩:=dec cs' hfit
   refine ⟨x,hlen,hfit,fun j hj=>?_⟩
   have:=hget j hj
   rw [WideShapes.add_plain,WideShapes.add_plain] at this
   rw [← this]
   unfold World.cell?
   rw [hb]
   simp
  have hsize:off + mm * m <= c.toList.length:=by
   obtain ⟨x,hxl,_,hj⟩:=la (mm - 1) (by omega)
   have h4:=hj (m - 1) (by omega)
   have h5:=(List.getElem?_eq_some_iff.1 (h4.trans (getElem?_eq_getElem (by omega)))).1
   have:mm * m = (mm - 1) * m + m:=by rw [← succ_mul]; congr 1; omega
   omega
  have hflat:∀ k,k <= mm->∃ ys:List τ,ys.length = k/\(c.toList.drop off).take (k * m) = ys.flatMap enc':=by
   intro k
   induction k with
   | zero=>exact fun _=>⟨[],rfl,by simp⟩
   | succ k ih =>
    intro hk1
    obtain ⟨ys,hy1,hy2⟩:=ih (by omega)
    obtain ⟨x,hxl,_,hj⟩:=la k (by omega)
    refine ⟨ys++[x],by simp [hy1],?_⟩
    rw [succ_mul,List.take_add,hy2,List.flatMap_append]
    congr 1
    simp only [List.flatMap_cons,List.flatMap_nil,List.append_nil]
    apply List.ext_getElem?
    intro j
    rw [drop_drop,List.getElem?_take,List.getElem?_drop]
    by_cases hjm:j < m
    ·rw [if_pos hjm,← hj j hjm]
    ·rw [if_neg hjm,List.getElem?_eq_none (by omega)]
  obtain ⟨xs,hx1,hx2⟩:=hflat len0 hl
  have hlm:len0 * m <= mm * m:=Nat.mul_le_mul_right m hl
  refine ⟨⟨some (b,off),len0,mm,some (c.toList.take off,c.toList.drop (off + len0 * m),T,fr)⟩,xs,rfl,hx1.symm,hl,.inr ⟨b,c.toList.take off,c.toList.drop (off + len0 * m),T,fr,?_,?_,rfl,?_,?_,?_⟩⟩
  ·rw [List.length_take,Nat.min_eq_left (by omega)]
  ·show mm * m <= len0 * m + _
   rw [List.length_drop]; omega
  ·rw [List.length_take,Nat.min_eq_left (by omega)]
   intro j j1 j2
   have j2':j < off + mm * m:=j2
   have hp:MemPlace.cell b j ∈ ps:=by
    have hps:=congrArg Prod.snd hx
    simp only at hps
    rw [hps]
    refine List.mem_append_left _ (mem_map.2 ⟨j - off,mem_range.2 (by omega),?_⟩)
    show MemPlace.cell b (off + (j - off)) = _
    congr 1; omega
   have:=hz b j hp
   unfold World.frozen? at this
   simp only [hb] at this
   exact this
  ·rintro rfl
   rw [hw] at hb
   cases hb
   obtain ⟨x,hxl,hfit,hj⟩:=la 0 (by omega)
   have h4:=hj 0 hpos
   simp only [Nat.zero_mul,Nat.add_zero] at h4
   cases hks:ks with
   | nil=>subst hks; have:=hfit.len; simp at this; simp [this] at hxl; omega
   | cons k ks' =>
    subst hks
    cases hex:enc' x with
    | nil=>rw [hex] at hxl; simp at hxl; omega
    | cons y ys =>
     rw [hex] at hfit h4
     simp only [List.getElem?_cons_zero] at h4
     have h5:y = X:=by
      cases off with
      | zero=>simpa using h4.symm
      | succ o=>simp at h4
     exact hX k (h5 ▸ hfit.1)
  ·rw [hb]
   congr 2
   apply Array.ext'
   show c.toList = c.toList.take off++(xs.flatMap enc'++c.toList.drop (off + len0 * m))
   rw [← hx2,← drop_drop,take_append_drop,take_append_drop]
theorem trodAll_stays (hl:laidOutB P = true) {W':World} {sp':Nat->Bool}:∀ {ts:List TypeId} {vs:List Value} {ds:List (DataW H)} {ps:List MemPlace},(∀ t ∈ ts,P.readableRec t = true/\t < P.types.size) ->
  DataW.TrodAll enc P W 0 (fun _=>true) true ts vs ds ps->(∀ p ∈ ps,W.sameAt W' p)->(∀ p ∈ ps,sp' p.block = true)->DataW.TrodAll enc P W' 0 sp' true ts vs ds ps
 | [],_,_,_,_,h,_,_=>by
  obtain ⟨rfl,rfl,rfl⟩:=trodAll_nil h
  rfl
 | t::ts,_,_,_,hr,h,hs,hp=>by
  obtain ⟨v,vs,d,ds,a,b,rfl,rfl,rfl,h1,h2⟩:=trodAll_cons h
  exact ⟨a,b,Go.WideElems.Trod_stays hl (hr t (by simp)).1 (hr t (by simp)).2 h1 (fun p q=>hs p (by simp [q])) (fun p q=>hp p (by simp [q])),trodAll_stays hl (fun t q=>hr t (by simp [q])) h2 (fun p q=>hs p (by simp [q])) (fun p q=>hp p (by simp [q])),rfl⟩
end
end
section
open Go Mb Go.ChangeShapes Go.WideShapes Go.RowKit
theorem no_iface (k:FK):¬ FK.ok k (rtV gq):=by
 cases k with
 | i k=>rintro ⟨n,h,_⟩; cases h
 | b=>rintro ⟨x,h⟩; cases h
theorem fit_cons {k:FK} {ks:List FK} {cs:List Value} (h:tK (k::ks) cs):∃ v vs,cs = v::vs/\k.ok v/\tK ks vs:=by
 cases cs with
 | nil=>exact h.elim
 | cons v vs=>exact ⟨v,vs,rfl,h.1,h.2⟩
theorem fit_i {k:IntKind} {ks:List FK} {cs:List Value} (h:tK (.i k::ks) cs):∃ (n:Int) (vs:List Value),cs = .int k n::vs/\(Lit.int k n).wf = true/\tK ks vs:=by
 obtain ⟨v,vs,rfl,⟨n,rfl,hw⟩,hf⟩:=fit_cons h
 exact ⟨n,vs,rfl,hw,hf⟩
theorem fit_nil {cs:List Value} (h:tK [] cs):cs = []:=by
 cases cs with
 | nil=>rfl
 | cons v vs=>exact h.elim
theorem Arg.sub {τ:Type} {P:τ->Prop} {W:World} {m:Nat} {C:τ->List Value} {s:Sl} {xs:List {x:τ // P x}} (A:Arg W m (fun x=>C x.1) s xs):Arg W m C s (xs.map (·.1))/\∀ x ∈ xs.map (·.1),P x:=by
 refine ⟨⟨by simpa using A.len,A.cap,?_⟩,fun x hx=>?_⟩
 ·have e:(xs.map (·.1)).flatMap C = xs.flatMap (fun x=>C x.1):=by rw [List.flatMap_map]
  rw [e]; exact A.row
 ·obtain ⟨y,_,rfl⟩:=mem_map.1 hx
  exact y.2
structure Same (W W':World):Prop where
 os:W'.os = W.os
 out:W'.output = W.output
 heap:∀ i,i < W.heap.size->W'.heap[i]? = W.heap[i]?
theorem Same.cell {W W':World} (s:Same W W') {p:MemPlace} (h:p.block < W.heap.size):W.sameAt W' p:=by
 cases p with
 | cell b off =>
  show W'.cell? _ = W.cell? _
  unfold World.cell?
  rw [s.heap b h]
 | map b=>exact s.heap b h
theorem run_spV {τ:Type} {T m:Nat} {enc:τ->List Value} {s:Sl} {xs:List τ} {f:FuncId} {vs:List Value} {ET:Nat} {EF:Nat × Nat} {W:World} (A:Arg W m enc s xs)
  (c:Sp prog f vs aB [etB ET EF,vec T m enc s xs] (fun r=>pa_ (r = true) [etB ET EF,vec T m enc s xs])) (hw:W.heap[0]? = some (.cells #[rtV gq] ET EF)) :
  Calls prog f vs.toArray W fun e W'=>e = .returned (.bool true)/\Same W W':=by
 have key:∀ (g:Hp),g 0 = none->(∀ b o,g b = some o->W.heap[b]? = some o)->vec T m enc s xs g->(∀ g',vec T m enc s xs g'->∀ b o,g b = some o->g' b = some o) ->
   Calls prog f vs.toArray W fun e W'=>e = .returned (.bool true)/\Same W W':=by
  intro g g0 gW gv gk
  have hs:Sub (un (dU emp 0 (.cells #[rtV gq] ET EF)) g) W:=by
   intro b o ho
   by_cases hb:b = 0
   ·subst hb; rw [un_left (iB _ _ _)] at ho; rw [hw]; exact ho
   ·rw [un_right (qg _ _ _ hb)] at ho; exact gW b o ho
  have hd:Dj (dU emp 0 (.cells #[rtV gq] ET EF)) g:=fun b=>by
   by_cases hb:b = 0
   ·subst hb; exact .inr g0
   ·exact .inl (qg _ _ _ hb)
  have hst:aE [etB ET EF,vec T m enc s xs] (un (dU emp 0 (.cells #[rtV gq] ET EF)) g):=⟨_,_,hd,rfl,iB _ _ _,wn gv⟩
  refine (c _ hst W hs).mono ?_
  rintro e W' ⟨v,h',rfl,⟨r,rfl,q⟩,s',fr⟩
  obtain ⟨rfl,q⟩:=q
  obtain ⟨g1,a1,sub1⟩:=dP (i:=0) (A:=etB ET EF) rfl q
  obtain ⟨g2,a2,sub2⟩:=dP (i:=1) (A:=vec T m enc s xs) rfl q
  refine ⟨rfl,fr.os,fr.out,fun i hi=>?_⟩
  rcases Nat.eq_zero_or_pos i with rfl | hp
  ·rw [s' _ _ (sub1 _ _ a1),hw]
  ·cases hg:g i with
   | none=>exact fr.same i hi (tN.2 ⟨qg _ _ _ (by omega),hg⟩)
   | some o=>rw [s' _ _ (sub2 _ _ (gk g2 a2 i o hg)),gW i o hg]
 rcases A.row with h0 | ⟨b,pre,rest,U,fr,h1,h2,h3,h4,h5,h6⟩
 ·exact key emp rfl (fun b o h=>by cases h) ⟨A.len,A.cap,.inl h0⟩ (fun _ _ b o h=>by cases h)
 ·by_cases h0:s.cap = 0
  ·exact key emp rfl (fun b o h=>by cases h) ⟨A.len,A.cap,.inl h0⟩ (fun _ _ b o h=>by cases h)
  ·refine key (dU emp b (.cells (pre++(xs.flatMap enc++rest)).toArray U fr)) (qg _ _ _ (Ne.symm h5)) ?_ ⟨A.len,A.cap,.inr ⟨b,pre,rest,U,fr,h1,h2,?_,iB _ _ _⟩⟩ ?_
   ·intro b' o ho
    unfold dU at ho
    split at ho
    ·rename_i hb; subst hb; rw [h6]; exact ho
    ·cases ho
   ·unfold gh; rw [h3]; exact ⟨rfl,h4⟩
   ·rintro g' ⟨_,_,r⟩ b' o ho
    rcases r with r | ⟨c',pre',rest',U',fr',r1,_,r3,r4⟩
    ·exact absurd r h0
    ·rw [h1] at r1
     unfold gh at r3
     rw [h3] at r3
     obtain ⟨r5,_⟩:=r3
     simp only [Prod.mk.injEq] at r5
     obtain ⟨rfl,rfl,rfl,rfl⟩:=r5
     simp only [Option.some.injEq,Prod.mk.injEq] at r1
     obtain ⟨rfl,_⟩:=r1
     unfold dU at ho
     split at ho
     ·rename_i hb; subst hb; cases ho; exact r4
     ·cases ho
theorem same_post {H:Type} {enc:TypeId × Value->H} {W W':World} {ts:List TypeId} {vs:List Value} {ds:List (DataW H)} {ps:List MemPlace} {sp:Nat->Bool} (hl:laidOutB prog = true) (hr:(ts.all fun t=>prog.readableRec t && decide (t < prog.types.size)) = true)
  (h:DataW.TrodAll enc prog W 0 (fun _=>true) true ts vs ds ps) (hlt:∀ p ∈ ps,p.block < W.heap.size) (s:Same W W') (hs:∀ p ∈ ps,sp p.block = true):DataW.TrodAll enc prog W' 0 sp true ts vs ds ps :=
 trodAll_stays hl (fun t ht=>by
  have:=all_eq_true.1 hr t ht
  simp only [and_eq_true,decide_eq_true_eq] at this
  exact this) h (fun p hp=>s.cell (hlt p hp)) hs
theorem want_all {ts:List TypeId} (h:(ts.all fun t=>!(prog.wantsStandIn t)) = true) {j:Nat} {t:TypeId} (ht:ts.toArray[j]? = some t):prog.wantsStandIn t = false:=by
 have:=all_eq_true.1 h t (mem_of_getElem? (by simpa using ht))
 simpa using this
end
section
open Go Mb
variable {ET:Nat} {EF:Nat × Nat}
namespace Shared
def r1 (s:eK):=KK.run (KK.new s) 0 0 ⟨1,0,0,0,0⟩
def r2 (s:eK):=KK.run (r1 s).2 0 0 ⟨6,0,0,3,0⟩
def r3 (s:eK) (v:Int):=KK.run (r2 s).2 0 0 ⟨21,0,0,v,0⟩
structure Fine (s:eK) (v:Int):Prop where
 sz:PK.sized s = true
 a1:(r1 s).1 = (⟨0,0⟩,true)
 a2:(r2 s).1 = (⟨0,0⟩,true)
 a3:(r3 s v).1 = (⟨0,0⟩,true)
 n1:(r1 s).2.now < 1000
 n2:(r2 s).2.now < 1000
end Shared
theorem call_len (c:cN):(ai.C c).length = 5:=rfl
open Shared in
theorem sp_shared (s:eK) (v:Int) (F:Fine s v):Sp prog kg [.agg s.C.toArray,.int .u64 v] ko [] (fun r=>aE [cE r (r3 s v).2]):=by
 intro h st
 refine uO _ _ ?_
 unfold nL
 refine lJ (sp_kern_New s F.sz) st fun x h1 s1=>?_
 refine dp (kern_nn s1) ?_
 refine eN (τ:=cN) [⟨1,0,0,0,0⟩,⟨6,0,0,3,0⟩,⟨21,0,0,v,0⟩] (val:=fun x=>.agg x.C.toArray) (enc:=ai.C) el_Sapi_Call call_len (fun _=>rfl) s1 rfl rfl (by decide) fun y h2 s2=>?_
 have hl:=(ci (j:=0) s2 rfl).1
 have hl3:y.len = 3:=hl
 refine Lp.intro (fun (i:Int) h=>∃ (n:Nat) (k:KK),i = n/\(n = 0/\k = KK.new s\/n = 1/\k = (r1 s).2\/n = 2/\k = (r2 s).2\/n = 3/\k = (r3 s v).2)/\aE [vec t_api_Call 5 ai.C y [⟨1,0,0,0,0⟩,⟨6,0,0,3,0⟩,⟨21,0,0,v,0⟩],cE x k] h) (fun (i:Int) _=>3 - i.toNat) ⟨0,_,rfl,.inl ⟨rfl,rfl⟩,s2⟩ ?_
 rintro i h3 ⟨n,k,rfl,hn,s3⟩
 unfold jH
 have lk:∀ (m:Nat) (c:cN) (k':KK),n = m->m < 3->([⟨1,0,0,0,0⟩,⟨6,0,0,3,0⟩,⟨21,0,0,v,0⟩]:List cN)[m]? = some c->(KK.run k 0 0 c).1 = (⟨0,0⟩,true)->(KK.run k 0 0 c).2 = k'->k.now < 1000 ->
   (n + 1 = 0/\k' = KK.new s\/n + 1 = 1/\k' = (r1 s).2\/n + 1 = 2/\k' = (r2 s).2\/n + 1 = 3/\k' = (r3 s v).2) ->
   (br (decide ((n:Int) < (y.len:Int))) (ix y n fun q22=>ld (q22.1,q22.2 + Int.toNat (n:Int) * 5) ai.C fun x23=>cl prog de [(pv x),(.int .i64 0),(.int .i64 0),(.agg (ai.C x23).toArray)] bd fun r27 =>
    br ((!r27.2) || (r27.1.fXa != 0)) ((fun r=>aE [cE r (r3 s v).2]) none) ((fun (s':Int) h'=>(∃ (n:Nat) (k:KK),s' = n/\(n = 0/\k = KK.new s\/n = 1/\k = (r1 s).2\/n = 2/\k = (r2 s).2\/n = 3/\k = (r3 s v).2)/\aE [vec t_api_Call 5 ai.C y [⟨1,0,0,0,0⟩,⟨6,0,0,3,0⟩,⟨21,0,0,v,0⟩],cE x k] h')/\3 - s'.toNat < 3 - (n:Int).toNat) (i64.wrap ((n:Int) + 1)))) ((fun r=>aE [cE r (r3 s v).2]) x)) h3:=by
  intro m c k' e hm hc hr hk hnow hq
  subst e
  have hw:i64.wrap ((n:Int) + 1) = ((n + 1:Nat):Int):=by rw [bN (by omega) (by omega)]; rfl
  refine dN (by rw [hl3]; exact decide_eq_true (by omega)) ?_
  refine dn s3 (j:=0) rfl (by omega) (by omega) fun q hq'=>?_
  refine dT (j:=0) (i:=n) (k:=0) c call_len s3 rfl hq' rfl hc (by simp) ?_
  refine bQ (i:=1) (sp_Run x k 0 0 c (by omega)) rfl s3 fun r h4 hr2 s4=>?_
  have hr3:r = (KK.run k 0 0 c).1:=hr2.1
  rw [hr] at hr3
  subst hr3
  refine dp rfl ?_
  rw [hw]
  rw [hk] at s4
  exact ⟨⟨n + 1,k',rfl,hq,s4⟩,by simp; omega⟩
 rcases hn with ⟨e,ek⟩ | ⟨e,ek⟩ | ⟨e,ek⟩ | ⟨e,ek⟩
 ·exact lk 0 _ (r1 s).2 e (by decide) rfl (by rw [ek]; exact F.a1) (by rw [ek,r1]) (by rw [ek]; show (0:Int) < 1000; decide) (.inr (.inl ⟨by omega,rfl⟩))
 ·exact lk 1 _ (r2 s).2 e (by decide) rfl (by rw [ek]; exact F.a2) (by rw [ek,r2]) (by rw [ek]; exact F.n1) (.inr (.inr (.inl ⟨by omega,rfl⟩)))
 ·exact lk 2 _ (r3 s v).2 e (by decide) rfl (by rw [ek]; exact F.a3) (by rw [ek,r3]) (by rw [ek]; exact F.n2) (.inr (.inr (.inr ⟨by omega,rfl⟩)))
 ·subst e
  refine dp (by rw [hl3]; rfl) ?_
  rw [ek] at s3
  exact cd (l:=[_]) s3
end
section
open Go Mb
theorem mod_in (x:Int) {n:Int} (h:1 <= n/\n <= 100):0 <= (i64.wrap (x.tmod n + n)).tmod n/\(i64.wrap (x.tmod n + n)).tmod n < n:=by
 have h1:=Int.tmod_lt_of_pos x (show (0:Int) < n by omega)
 have h2:-n < x.tmod n:=by
  have:=Int.tmod_lt_of_pos (-x) (show (0:Int) < n by omega)
  rw [Int.neg_tmod] at this
  omega
 rw [bN (by omega) (by omega)]
 exact ⟨Int.tmod_nonneg _ (by omega),Int.tmod_lt_of_pos _ (by omega)⟩
end
section
open Go
namespace Mb
section
variable {τ:Type}
def entsK (kd:IntKind) (val:τ->Value) (es:List MapEntry) (m:List (Int × τ)):Prop:=es.map (fun e=>(e.key,e.val)) = m.map (fun p=>(Value.int kd p.1,val p.2))
def mapL (kd:IntKind) (b:Nat) (val:τ->Value) (m:List (Int × τ)):As:=fun h=>∃ (es:List MapEntry) (clock:Nat),h b = some (.map es.toArray clock)/\entsK kd val es m
theorem find_nowK {val:τ->Value} {kd k:IntKind} (x:Int):∀ {es:List MapEntry} {m:List (Int × τ)} (i:Nat),entsK k val es m->Instr.findNow (.int kd) (.int k x) es i = some ((fi x m i).map fun r=>(r.1,val r.2))
 | [],[],_,_=>rfl
 | [],_::_,_,h=>by simp [entsK] at h
 | _::_,[],_,h=>by simp [entsK] at h
 | e::es,p::m,i,h=>by
  simp only [entsK,List.map_cons,List.cons.injEq,Prod.mk.injEq] at h
  obtain ⟨⟨h1,h2⟩,h3⟩:=h
  unfold Instr.findNow fi
  rw [h1,h2]
  by_cases hx:x = p.1
  ·subst hx; simp [Instr.sameNow]
  ·have:(x == p.1) = false:=by simpa using hx
   simp only [Instr.sameNow,this,if_true,if_neg hx]
   exact find_nowK x (i + 1) h3
theorem fi_none {x:Int}:∀ {m:List (Int × τ)} {i:Nat},x ∉ m.map (·.1)->fi x m i = none
 | [],_,_=>rfl
 | p::m,i,h=>by
  unfold fi
  rw [if_neg (fun e=>h (by simp [e]))]
  exact fi_none (fun hm=>h (by simp only [List.map_cons,mem_cons]; exact .inr hm))
end
section
variable {P:Program} {l:List As} {h:Hp} {τ:Type} {S K E:TypeId} {z:Value} {val:τ->Value} {kd:IntKind}
theorem hp_findKeyK {kd k:IntKind} {x:Int} {es:List MapEntry} {m:List (Int × τ)} {Q:Option (Nat × Value)->Hp->Prop} (e:P.underlying K = some (.int kd)) (he:entsK k val es m) (q:Q ((fi x m 0).map fun r=>(r.1,val r.2)) h):hp P (Instr.findKey K (.int k x) es) Q h:=by
 unfold Instr.findKey
 refine bZ (cM e ?_)
 rw [find_nowK x 0 he]
 exact q
theorem makeMap_L {R:Option Nat->Value} {Q:Option Nat->Hp->Prop} (kd:IntKind) (hR:R = fun r=>.map r) (st:aE l h) (k:∀ b h',aE (mapL kd b val []::l) h'->Q (some b) h'):hpv P (Instr.makeMap S none) R Q h:=by
 subst hR
 refine ⟨?_⟩
 unfold Instr.makeMap
 refine bZ ?_
 refine ⟨rfl,fun b hb=>⟨some b,rfl,k b _ ?_⟩⟩
 obtain ⟨h1,h2,d,e,a,s⟩:=new_s (o:=.map #[] 0) st hb
 exact ⟨h1,h2,d,e,⟨[],0,a,rfl⟩,s⟩
theorem lookup_L {σ:Type} {j b:Nat} {m:List (Int × τ)} {x:Int} {ok:Bool} {R:σ->Value} {Q:σ->Hp->Prop} (M:Mp P S K E z) (st:aE l h) (hj:l[j]? = some (mapL kd b val m)) (r:σ) (hr:(if ok then .tuple #[(((fi x m 0).map (·.2)).map val).getD z,.bool (fi x m 0).isSome] else (((fi x m 0).map (·.2)).map val).getD z) = R r) (q:Q r h):hpv P (Instr.lookup S (.map (some b)) (.int kd x) ok) R Q h:=by
 refine ⟨?_⟩
 obtain ⟨h1,⟨es,clock,a,he⟩,sub⟩:=dP hj st
 obtain ⟨kd',hk⟩:=M.key
 obtain ⟨i,hi,hz⟩:=M.inf
 unfold Instr.lookup
 refine bZ (cM M.mp ?_)
 refine bZ (hp_getObj (sub _ _ a) rfl ?_)
 refine bZ ?_
 rw [xm]
 refine bZ (uA hk ?_)
 refine bZ (hp_findKeyK (val:=val) hk he ?_)
 cases hm:fi x m 0 with
 | none =>
  rw [hm] at hr
  refine bZ (oT hi hz ?_)
  exact ⟨r,hr,q⟩
 | some p =>
  rw [hm] at hr
  refine bZ ?_
  exact ⟨r,hr,q⟩
theorem update_L {j b:Nat} {m:List (Int × τ)} {x:Int} {w:τ} {v:Value} {Q:Hp->Prop} (M:Mp P S K E z) (st:aE l h) (hj:l[j]? = some (mapL kd b val m)) (hv:v = val w) (hx:x ∉ m.map (·.1)) (k:∀ h',aE (l.set j (mapL kd b val (m++[(x,w)]))) h'->Q h'):hpu P (Instr.mapUpdate S (.map (some b)) (.int kd x) v) Q h:=by
 subst hv
 refine ⟨?_⟩
 obtain ⟨h1,h2,d,rfl,⟨es,clock,a,he⟩,s'⟩:=fO hj st
 have hjl:=(List.getElem?_eq_some_iff.1 hj).1
 obtain ⟨kd',hk⟩:=M.key
 unfold Instr.mapUpdate
 refine bZ (cM M.mp ?_)
 refine bZ (hp_getObj (un_left a) rfl ?_)
 refine bZ (uA hk ?_)
 refine bZ (hp_findKeyK (val:=val) hk he ?_)
 rw [fi_none hx]
 refine ⟨rfl,⟨_,un_left a,rfl⟩,?_⟩
 obtain ⟨d',e'⟩:=set_dj (o':=.map (es.toArray.push { key:=.int kd x,val:=val w,born:=clock }) (clock + 1)) d a
 rw [e']
 refine k _ (ee hjl ⟨_,h2,d',rfl,⟨(es.toArray.push { key:=.int kd x,val:=val w,born:=clock }).toList,clock + 1,?_,?_⟩,s'⟩)
 ·exact iB _ _ _
 ·unfold entsK at he ⊢
  simp [he]
end
end Mb
end
section
open Go Mb
variable {ET:Nat} {EF:Nat × Nat}
namespace Adds
open Shared
def sz (n:Int):eK:=⟨n,1,1⟩
abbrev ad:cN:=⟨23,0,0,1,0⟩
abbrev ld:cN:=⟨20,0,0,0,0⟩
def kk (n:Int):KK:=(r3 (sz n) 0).2
abbrev AB:=dZ × Bool
abbrev ok:AB:=(⟨0,0⟩,true)
def tab (n:Int):(AB × AB × AB) × Pte × (Int × Bool) × eK × List Int × Bool :=
 (((r1 (sz n)).1,(r2 (sz n)).1,(r3 (sz n) 0).1),PK.q (kk n).p 0 0,Mem.load (kk n).p.m 0 0,(kk n).p.s,(kk n).events.map (fun e=>e.fKa.e0),
 PK.sized (sz n) && decide ((r1 (sz n)).2.now < 1000) && decide ((r2 (sz n)).2.now < 1000))
def eO (n:Int):(AB × AB × AB) × Pte × (Int × Bool) × eK × List Int × Bool:=((ok,ok,ok),⟨0,0,3⟩,(0,true),sz n,[1,6,21],true)
theorem tabs:tab 2 = eO 2/\tab 3 = eO 3/\tab 4 = eO 4/\tab 5 = eO 5/\tab 6 = eO 6:=by
 refine ⟨?_,?_,?_,?_,?_⟩ <;> kernel_rfl
structure Fine (n:Int):Prop where
 sh:Shared.Fine (sz n) 0
 q:PK.q (kk n).p 0 0 = ⟨0,0,3⟩
 mem:Mem.load (kk n).p.m 0 0 = (0,true)
 s:(kk n).p.s = sz n
 evs:(kk n).events.map (fun e=>e.fKa.e0) = [1,6,21]
theorem fine (n:Int) (h:2 <= n/\n <= 6):Fine n:=by
 have h:tab n = eO n:=by
  obtain ⟨t1,t2,t3,t4,t5⟩:=tabs
  have:n = 2\/n = 3\/n = 4\/n = 5\/n = 6:=by omega
  rcases this with h | h | h | h | h
  ·rw [h]; exact t1
  ·rw [h]; exact t2
  ·rw [h]; exact t3
  ·rw [h]; exact t4
  ·rw [h]; exact t5
 unfold tab eO at h
 simp only [Prod.mk.injEq] at h
 obtain ⟨⟨b1,b2,b3⟩,c1,c2,c3,c4,e⟩:=h
 simp only [and_eq_true,decide_eq_true_eq] at e
 exact ⟨⟨e.1.1,b1,b2,b3,e.1.2,e.2⟩,c1,c2,c3,c4⟩
theorem cwad:Cw ad:=⟨by decide,by decide,by decide,by decide,by decide⟩
theorem cwld:Cw ld:=⟨by decide,by decide,by decide,by decide,by decide⟩
theorem calm3 {n:Int} (h:PK.sized (sz n) = true):Calm 3 (kk n) :=
 (((calm_new h).run (by decide) 0 0 ⟨by decide,by decide,by decide,by decide,by decide⟩ (by decide)).run (by decide) 0 0 ⟨by decide,by decide,by decide,by decide,by decide⟩ (by decide)).run (by decide) 0 0 (c:=⟨21,0,0,0,0⟩) ⟨by decide,by decide,by decide,by decide,by decide⟩ (by decide)
def pJ (e:bk):Bool:=e.fKa.e0 == 23
def did (e:bk):Bool:=pJ e && e.fHa != 0
theorem add_ad (k:PK) (f:Int):PK.touch k f ad = ((⟨0,(Mem.load k.m f 0).1⟩,(Mem.load k.m f 0).2),{ k with m:=(Mem.store k.m f 0 (u64.wrap ((Mem.load k.m f 0).1 + 1))).2 }):=by unfold PK.touch; rfl
theorem load_ld (k:PK) (f:Int):PK.touch k f ld = ((⟨0,(Mem.load k.m f 0).1⟩,(Mem.load k.m f 0).2),k):=by unfold PK.touch; rfl
theorem load_store {m:List (List Int)} {w v:Int} (hr:∀ r ∈ m,r.length = 16) (h:Mem.load m 0 0 = (w,true)):Mem.load (Mem.store m 0 0 v).2 0 0 = (v,true):=by
 have hh:Mem.has m 0 0:=by
  unfold Mem.load at h
  split at h
  ·assumption
  ·cases h
 have hl:0 < m.length:=by have:=hh.2.1; omega
 cases m with
 | nil=>simp at hl
 | cons r m =>
  have hr':=hr r (by simp)
  cases r with
  | nil=>simp at hr'
  | cons a r =>
   unfold Mem.store
   rw [if_pos hh]
   show Mem.load ((v::r)::m) 0 0 = _
   unfold Mem.load
   rw [if_pos ⟨by decide,by simp,by decide,by decide⟩]
   rfl
structure J (n:Int) (w:Nat) (k:KK):Prop extends All k where
 s:k.p.s = sz n
 q:PK.q k.p 0 0 = ⟨0,0,3⟩
 mem:Mem.load k.p.m 0 0 = ((w:Int),true)
 call:∀ (d:Nat) x,k.calls[d]? = some (some x)->x.fGa = 0/\x.fc = ad
 num:k.events.countP did = w
 val:∀ (i:Nat) e,k.events[i]? = some e->did e = true->e.fVa.fXa = 0/\0 <= e.fVa.fHb/\e.fVa.fHb < w
 apart:∀ (i j:Nat) d e,k.events[i]? = some d->k.events[j]? = some e->did d = true->did e = true->d.fVa.fHb = e.fVa.fHb->i = j
theorem J.post {n:Int} {w:Nat} {k:KK} (H:J n w k) (hn:k.now < 2 ^ 40) (c:Int):J n w (KK.post k c).2:=by
 obtain ⟨h1,h2,h3⟩:=post_same k c
 exact ⟨H.toAll.post hn c,by rw [h2]; exact H.s,by rw [h2]; exact H.q,by rw [h2]; exact H.mem,by rw [h3]; exact H.call,by rw [h1]; exact H.num,by rw [h1]; exact H.val,by rw [h1]; exact H.apart⟩
theorem get_app {α:Type} {l:List α} {x e:α} {i:Nat} (h:(l++[x])[i]? = some e):l[i]? = some e\/(i = l.length/\e = x):=by
 rcases Nat.lt_or_ge i l.length with h1 | h1
 ·rw [List.getElem?_append_left h1] at h; exact .inl h
 ·rw [List.getElem?_append_right h1] at h
  by_cases h0:i - l.length = 0
  ·rw [h0] at h; simp at h; exact .inr ⟨by omega,h.symm⟩
  ·rw [List.getElem?_eq_none (by simp; omega)] at h; cases h
theorem J.begin {n:Int} {w:Nat} {k:KK} (H:J n w k) (hn:k.now < 2 ^ 40) (c:Int):J n w (KK.begin_ k c 0 ad).2/\(KK.begin_ k c 0 ad).2.events.countP pJ = k.events.countP pJ + (if (KK.begin_ k c 0 ad).1 then 1 else 0):=by
 have hA:=H.toAll.begin hn c 0 cwad
 rcases begin_or H.toIE hn c 0 ad with ⟨h1,h⟩ | ⟨h1,d,rfl,hd,_,_,_,he,hp,hc,_⟩
 ·rw [h,h1]; exact ⟨H,by simp⟩
 ·have hnd:did (KK.ev0 d 0 ad (k.now + 1)) = false:=rfl
  refine ⟨⟨hA,by rw [hp]; exact H.s,by rw [hp]; exact H.q,by rw [hp]; exact H.mem,?_,?_,?_,?_⟩,?_⟩
  ·rw [hc]
   exact lT (P:=fun _ x=>x.fGa = 0/\x.fc = ad) H.call fun x hx=>by cases hx; exact ⟨rfl,rfl⟩
  ·rw [he,List.countP_append,H.num]; rfl
  ·rw [he]
   intro i e hi hde
   rcases get_app hi with h | ⟨_,rfl⟩
   ·exact H.val i e h hde
   ·rw [hnd] at hde; cases hde
  ·rw [he]
   intro i j a b hi hj ha hb hab
   rcases get_app hi with h | ⟨_,rfl⟩
   ·rcases get_app hj with h' | ⟨_,rfl⟩
    ·exact H.apart i j a b h h' ha hb hab
    ·rw [hnd] at hb; cases hb
   ·rw [hnd] at ha; cases ha
  ·rw [he,List.countP_append,h1]; rfl
theorem count_set {P:bk->Bool} {es:List bk} {m:Nat} {e0 e:bk} (h:es[m]? = some e0) (h0:P e0 = false) (h1:P e = true):(es.set m e).countP P = es.countP P + 1:=by
 obtain ⟨hm,he⟩:=List.getElem?_eq_some_iff.1 h
 have:=fAa.countP_set P es m e hm
 rw [he,h0,h1] at this
 simpa [fAa.b2n] using this
theorem count_same {P:bk->Bool} {es:List bk} {m:Nat} {e0 e:bk} (h:es[m]? = some e0) (h1:P e = P e0):(es.set m e).countP P = es.countP P:=by
 obtain ⟨hm,he⟩:=List.getElem?_eq_some_iff.1 h
 have:=fAa.countP_set P es m e hm
 rw [he,h1] at this
 omega
theorem J.step {n:Int} {w:Nat} {k:KK} (hw:w < 2 ^ 20) (H:J n w k) (hn:k.now < 2 ^ 40) (c:Int):(∃ w':Nat,w <= w'/\w' <= w + 1/\J n w' (KK.step k c).2)/\(KK.step k c).2.events.countP pJ = k.events.countP pJ/\(KK.step k c).2.events.length = k.events.length:=by
 rcases step_or H.toIE hn c with h | ⟨d,x,rfl,hx,st⟩
 ·rw [h]; exact ⟨⟨w,le_refl _,le_succ _,H⟩,rfl,rfl⟩
 have hA:=H.toAll.step hn d
 obtain ⟨hc1,hc2⟩:=H.call d x hx
 have hdl:=(List.getElem?_eq_some_iff.1 hx).1
 have hs1:k.p.s.fIa = 1:=by rw [H.s]; rfl
 cases st with
 | wait y he hp hc h1 h2 h3 =>
  refine ⟨⟨w,le_refl _,le_succ _,hA,by rw [hp]; exact H.s,by rw [hp]; exact H.q,by rw [hp]; exact H.mem,?_,by rw [he]; exact H.num,by rw [he]; exact H.val,by rw [he]; exact H.apart⟩,by rw [he],by rw [he]⟩
  rw [hc]
  refine lT (P:=fun _ x=>x.fGa = 0/\x.fc = ad) H.call fun z hz=>?_
  cases hz
  rw [h1,h2]; exact ⟨hc1,hc2⟩
 | user m e0 h0 hm hz hcl hen hco hu he hp hc =>
  have I:=H.inv.tick hn
  have hk:20 <= i64.wrap x.fc.e0/\i64.wrap x.fc.e0 <= 23:=by rw [hc2]; decide
  have hac:(KK.access (KK.tick k) d x).1.1 = ⟨0,w⟩/\(KK.access (KK.tick k) d x).2.p = { k.p with m:=(Mem.store k.p.m 0 0 (u64.wrap ((w:Int) + 1))).2 }:=by
   rcases access_or I (c:=d) hdl (x:=x) (by rw [hc2]; show Word.check ad k.p.s.fIa = 0; rw [hs1]; decide) hk with h | ⟨l,_,_,h3,h4⟩
   ·exfalso
    rcases walk_fault I h.2.2 hk with h | ⟨d',y,⟨hy,hty⟩,h⟩
    ·rw [hc1,hc2] at h
     rw [show PK.q (KK.tick k).p 0 (i64.wrap ad.e1) = ⟨0,0,3⟩ from H.q] at h
     cases h
    ·have T:=(I.teller ⟨hy,hty⟩).t
     rw [(H.call d' y hy).2] at T
     unfold Tk at T; simp at T
   ·rw [hc1,hc2] at h3 h4
    rw [show PK.q (KK.tick k).p 0 (i64.wrap ad.e1) = ⟨0,0,3⟩ from H.q,add_ad] at h3 h4
    refine ⟨?_,?_⟩
    ·rw [h3]
     show (⟨0,(Mem.load k.p.m 0 0).1⟩:dZ) = _
     rw [H.mem]
    ·rw [h4]
     show ({ k.p with m:=(Mem.store k.p.m 0 0 (u64.wrap ((Mem.load k.p.m 0 0).1 + 1))).2 }:PK) = _
     rw [H.mem]
  have hwr:u64.wrap ((w:Int) + 1) = ((w + 1:Nat):Int):=by rw [wrapU (by omega) (by omega)]; omega
  have hpos:k.now + 1 ≠ 0:=by have:=H.inv.ok.n0; omega
  have hisA:pJ e0 = true:=by unfold pJ; rw [hcl,hc2]; rfl
  have hd0:did e0 = false:=by unfold did; rw [hz]; simp
  have hd1:did (KK.evend e0 (k.now + 1) (KK.access (KK.tick k) d x).1.1 (KK.access (KK.tick k) d x).1.2) = true:=by
   unfold did
   rw [and_eq_true]
   exact ⟨hisA,by rw [bne_iff_ne]; exact hpos⟩
  have ans:(KK.evend e0 (k.now + 1) (KK.access (KK.tick k) d x).1.1 (KK.access (KK.tick k) d x).1.2).fVa = ⟨0,w⟩:=hac.1
  generalize KK.evend e0 (k.now + 1) (KK.access (KK.tick k) d x).1.1 (KK.access (KK.tick k) d x).1.2 = e1 at he hd1 ans
  have hml:=(List.getElem?_eq_some_iff.1 h0).1
  have at_m:∀ (i:Nat) e,(k.events.set m e1)[i]? = some e->(i = m/\e = e1)\/(i ≠ m/\k.events[i]? = some e):=by
   intro i e hi
   rw [List.getElem?_set] at hi
   by_cases h:m = i
   ·rw [if_pos h,if_pos hml] at hi
    exact .inl ⟨h.symm,(Option.some.inj hi).symm⟩
   ·rw [if_neg h] at hi
    exact .inr ⟨fun e=>h e.symm,hi⟩
  have hisA1:pJ e1 = pJ e0:=by
   have:pJ e1 = true:=by unfold did at hd1; rw [and_eq_true] at hd1; exact hd1.1
   rw [this,hisA]
  refine ⟨⟨w + 1,le_succ _,le_refl _,hA,by rw [hp,hac.2]; exact H.s,by rw [hp,hac.2]; exact H.q,?_,?_,?_,?_,?_⟩,?_,by rw [he,List.length_set]⟩
  ·rw [hp,hac.2,hwr]
   exact load_store H.inv.F.ok.mr H.mem
  ·rw [hc]
   exact lT (P:=fun _ x=>x.fGa = 0/\x.fc = ad) H.call fun z hz=>by cases hz
  ·rw [he,count_set h0 hd0 hd1,H.num]
  ·rw [he]
   intro i e hi hde
   rcases at_m i e hi with ⟨_,rfl⟩ | ⟨_,h⟩
   ·rw [ans]; exact ⟨rfl,by show (0:Int) <= w; omega,by show (w:Int) < ((w + 1:Nat):Int); omega⟩
   ·have:=H.val i e h hde
    exact ⟨this.1,this.2.1,by omega⟩
  ·rw [he]
   intro i j a b hi hj ha hb hab
   rcases at_m i a hi with ⟨r1,rfl⟩ | ⟨r1,h⟩
   ·rcases at_m j b hj with ⟨r2,rfl⟩ | ⟨r2,h'⟩
    ·omega
    ·have:=(H.val j b h' hb).2.2
     rw [ans] at hab
     have hab:(w:Int) = b.fVa.fHb:=hab
     omega
   ·rcases at_m j b hj with ⟨r2,rfl⟩ | ⟨r2,h'⟩
    ·have:=(H.val i a h ha).2.2
     rw [ans] at hab
     have hab:a.fVa.fHb = (w:Int):=hab
     omega
    ·exact H.apart i j a b h h' ha hb hab
  ·rw [he,count_same h0 hisA1]
 | does m e0 h0 hm hz hcl hen hco hu he hp hc =>
  rw [hc2] at hu; cases hu
structure Q (n:Int) (m:Nat) (k:KK):Prop extends All k where
 j:∃ w:Nat,J n w k
 cnt:k.events.countP pJ = m
 m20:m < 2 ^ 20
theorem Q.post {n:Int} {m:Nat} {k:KK} (H:Q n m k) (hn:k.now < 2 ^ 40) (c:Int):Q n m (KK.post k c).2:=by
 obtain ⟨w,j⟩:=H.j
 obtain ⟨h1,h2,h3⟩:=post_same k c
 exact ⟨H.toAll.post hn c,⟨w,j.post hn c⟩,by rw [h1]; exact H.cnt,H.m20⟩
theorem did_le {es:List bk}:es.countP did <= es.countP pJ:=List.countP_mono_left fun e _ h=>by unfold did at h; rw [and_eq_true] at h; exact h.1
theorem Q.step {n:Int} {m:Nat} {k:KK} (H:Q n m k) (hn:k.now < 2 ^ 40) (c:Int):Q n m (KK.step k c).2:=by
 obtain ⟨w,j⟩:=H.j
 have hle:w <= m:=by rw [← j.num,← H.cnt]; exact did_le
 have hm:=H.m20
 obtain ⟨⟨w',_,_,j'⟩,h2,_⟩:=j.step (by omega) hn c
 exact ⟨H.toAll.step hn c,⟨w',j'⟩,by rw [h2]; exact H.cnt,H.m20⟩
theorem Q.begin {n:Int} {m:Nat} {k:KK} (H:Q n m k) (hn:k.now < 2 ^ 40) (hm:m + 1 < 2 ^ 20) (c:Int):Q n (m + if (KK.begin_ k c 0 ad).1 then 1 else 0) (KK.begin_ k c 0 ad).2:=by
 obtain ⟨w,j⟩:=H.j
 obtain ⟨j',h2⟩:=j.begin hn c
 refine ⟨H.toAll.begin hn c 0 cwad,⟨w,j'⟩,by rw [h2,H.cnt],?_⟩
 split <;> omega
theorem closed {n:Int} {m:Nat}:Closed (Q n m):=⟨fun A=>A.inv,fun A hn c=>A.post hn c,fun A hn c=>A.step hn c⟩
theorem Q.awake {n:Int} {m:Nat} {k:KK} (H:Q n m k):∀ (d:Nat) x,k.calls[d]? = some (some x)->x.fc.e0 ≠ 9:=fun d x h=>by
 obtain ⟨w,j⟩:=H.j
 rw [(j.call d x h).2]; decide
theorem q0 {n:Int} (F:Fine n):Q n 0 (kk n):=by
 have C:=calm3 (n:=n) F.sh.sz
 have hev:=F.evs
 have hall:∀ e ∈ (kk n).events,pJ e = false:=by
  intro e he
  have:e.fKa.e0 ∈ (kk n).events.map (fun e=>e.fKa.e0):=mem_map.2 ⟨e,he,rfl⟩
  rw [hev] at this
  unfold pJ
  simp only [mem_cons,List.not_mem_nil,or_false] at this
  rcases this with h | h | h <;> rw [h] <;> rfl
 have hdid:∀ e ∈ (kk n).events,did e = false:=fun e he=>by unfold did; rw [hall e he]; rfl
 refine ⟨C.toAll,⟨0,C.toAll,F.s,F.q,F.mem,fun d x h=>absurd h (C.idle d x),?_,fun i e h hd=>?_,fun i j a b h _ ha=>?_⟩,?_,by decide⟩
 ·rw [List.countP_eq_zero]; intro e he; rw [hdid e he]; simp
 ·rw [hdid e (mem_of_getElem? h)] at hd; cases hd
 ·rw [hdid a (mem_of_getElem? h)] at ha; cases ha
 ·rw [List.countP_eq_zero]; intro e he; rw [hall e he]; simp
theorem Q.all {n:Int} {m:Nat} {k:KK} (H:Q n m k) (hi:∀ (d:Nat) x,k.calls[d]? ≠ some (some x)):J n m k:=by
 obtain ⟨w,j⟩:=H.j
 have:w = m:=by
  rw [← j.num,← H.cnt]
  refine List.countP_congr fun e he=>?_
  have:=(H.toIE.ended hi e he).2
  unfold did
  simp [this]
 rw [← this]; exact j
structure L (i:Nat) (core:Int) (n w:Int) (k:KK):Prop extends All k where
 s:k.p.s = sz n
 q:PK.q k.p 0 0 = ⟨0,0,3⟩
 mem:Mem.load k.p.m 0 0 = (w,true)
 call:∀ (d:Nat) x,k.calls[d]? = some (some x)->x.fGa = 0/\x.fc = ld
 len:k.events.length = i + 1
 le:∃ e,k.events[i]? = some e/\e.fQa = core/\(e.fHa ≠ 0->e.fVa = ⟨0,w⟩)
theorem L.post {i:Nat} {core n w:Int} {k:KK} (H:L i core n w k) (hn:k.now < 2 ^ 40) (c:Int):L i core n w (KK.post k c).2:=by
 obtain ⟨h1,h2,h3⟩:=post_same k c
 exact ⟨H.toAll.post hn c,by rw [h2]; exact H.s,by rw [h2]; exact H.q,by rw [h2]; exact H.mem,by rw [h3]; exact H.call,by rw [h1]; exact H.len,by rw [h1]; exact H.le⟩
theorem L.step {i:Nat} {core n w:Int} {k:KK} (H:L i core n w k) (hn:k.now < 2 ^ 40) (c:Int):L i core n w (KK.step k c).2:=by
 rcases step_or H.toIE hn c with h | ⟨d,x,rfl,hx,st⟩
 ·rw [h]; exact H
 have hA:=H.toAll.step hn d
 obtain ⟨hc1,hc2⟩:=H.call d x hx
 have hdl:=(List.getElem?_eq_some_iff.1 hx).1
 have hs1:k.p.s.fIa = 1:=by rw [H.s]; rfl
 cases st with
 | wait y he hp hc h1 h2 h3 =>
  refine ⟨hA,by rw [hp]; exact H.s,by rw [hp]; exact H.q,by rw [hp]; exact H.mem,?_,by rw [he]; exact H.len,by rw [he]; exact H.le⟩
  rw [hc]
  refine lT (P:=fun _ x=>x.fGa = 0/\x.fc = ld) H.call fun z hz=>?_
  cases hz
  rw [h1,h2]; exact ⟨hc1,hc2⟩
 | user m e0 h0 hm hz hcl hen hco hu he hp hc =>
  have I:=H.inv.tick hn
  have hk:20 <= i64.wrap x.fc.e0/\i64.wrap x.fc.e0 <= 23:=by rw [hc2]; decide
  have hac:(KK.access (KK.tick k) d x).1.1 = ⟨0,w⟩/\(KK.access (KK.tick k) d x).2.p = k.p:=by
   rcases access_or I (c:=d) hdl (x:=x) (by rw [hc2]; show Word.check ld k.p.s.fIa = 0; rw [hs1]; decide) hk with h | ⟨l,_,_,h3,h4⟩
   ·exfalso
    rcases walk_fault I h.2.2 hk with h | ⟨d',y,⟨hy,hty⟩,h⟩
    ·rw [hc1,hc2] at h
     rw [show PK.q (KK.tick k).p 0 (i64.wrap ld.e1) = ⟨0,0,3⟩ from H.q] at h
     cases h
    ·have T:=(I.teller ⟨hy,hty⟩).t
     rw [(H.call d' y hy).2] at T
     unfold Tk at T; simp at T
   ·rw [hc1,hc2] at h3 h4
    rw [show PK.q (KK.tick k).p 0 (i64.wrap ld.e1) = ⟨0,0,3⟩ from H.q,load_ld] at h3 h4
    refine ⟨?_,h4⟩
    rw [h3]
    show (⟨0,(Mem.load k.p.m 0 0).1⟩:dZ) = _
    rw [H.mem]
  refine ⟨hA,by rw [hp,hac.2]; exact H.s,by rw [hp,hac.2]; exact H.q,by rw [hp,hac.2]; exact H.mem,?_,by rw [he,List.length_set]; exact H.len,?_⟩
  ·rw [hc]
   exact lT (P:=fun _ x=>x.fGa = 0/\x.fc = ld) H.call fun z hz=>by cases hz
  ·obtain ⟨e,g1,g2,g3⟩:=H.le
   rw [he]
   by_cases hmi:m = i
   ·subst hmi
    rw [h0] at g1
    cases g1
    refine ⟨KK.evend e0 (k.now + 1) (KK.access (KK.tick k) d x).1.1 (KK.access (KK.tick k) d x).1.2,?_,g2,fun _=>hac.1⟩
    rw [List.getElem?_set,if_pos rfl,if_pos (List.getElem?_eq_some_iff.1 h0).1]
   ·exact ⟨e,by rw [List.getElem?_set,if_neg hmi]; exact g1,g2,g3⟩
 | does m e0 h0 hm hz hcl hen hco hu he hp hc =>
  rw [hc2] at hu; cases hu
theorem lclosed {i:Nat} {core n w:Int}:Closed (L i core n w):=⟨fun A=>A.inv,fun A hn c=>A.post hn c,fun A hn c=>A.step hn c⟩
theorem run_ldd {n N:Int} {w M:Nat} {k:KK} (H:J n w k) (R:Rest (sz n) N M k) (hN:N < 2 ^ 33) (hM:M <= 4800) (hc:0 < k.calls.length):(KK.run k 0 0 ld).1 = (⟨0,w⟩,true):=by
 have hnow:=R.now
 obtain ⟨q,h1,L',h2,h3,h4,h5,h6⟩:=run_closed (lclosed (i:=k.events.length) (core:=((0:Nat):Int)) (n:=n) (w:=w)) R hN hM hc (a:=0) ⟨Int.le_refl _,show (0:Int) < 1 by decide⟩ (fc:=ld) (by decide) (fun q hq he hp hcs=>by
  refine ⟨by rw [hq]; exact R.toAll.begin (by omega) _ 0 cwld,by rw [hp]; exact H.s,by rw [hp]; exact H.q,by rw [hp]; exact H.mem,?_,by rw [he,length_append]; rfl,⟨_,by rw [he,List.getElem?_append_right (le_refl _)]; simp; rfl,rfl,fun h=>absurd rfl h⟩⟩
  rw [hcs]
  exact lT (P:=fun _ x=>x.fGa = 0/\x.fc = ld) (fun d x h=>absurd h (R.idle d x)) fun x hx=>by cases hx; exact ⟨rfl,rfl⟩)
 obtain ⟨e,g1,g2,g3⟩:=L'.le
 have hen:=L'.toIE.ended h3 e (mem_of_getElem? g1)
 have hpos:e.fYa > 0:=by
  have:=L'.toAll.ev.one _ _ g1
  rcases this.st with s | s
  ·exact absurd s.2 hen.1
  ·have:=this.b0; omega
 have h2':(KK.run k 0 0 ld).1 = KK.lastA ((0:Nat):Int) q.events q.events.length:=h2
 rw [h2',lastA_at L'.len g1 g2,g3 hen.2,decide_eq_true hpos]
end Adds
end
end Go.Proofs.YtemoifebbhoinaaGreatDoor
