/- Part of the proof of: The law PicksAll returns true for every input, and leaves its arguments as they were. -/
import Derived.Test.YtniiiakkdoiaiaaGreatDoorPicksAll15
set_option linter.all false
namespace Go.Proofs.YtniiiakkdoiaiaaGreatDoor
open Go Mb
namespace Hist
def placesFrom (P:co→Bool):List co→Int→List Int
  | [],_=>[]
  | e::es,i=>if P e = true then i::placesFrom P es (i + 1) else placesFrom P es (i + 1)
def places (P:co→Bool) (es:List co):List Int:=placesFrom P es 0
def ev00:co:=KK.ev0 0 0 ⟨0,0,0,0,0⟩ 0
def eff (es:List co) (i:Int):Int:=(es.getD i.toNat ev00).fEffect
def ins (key:Int→Int) (x:Int):List Int→List Int
  | []=>[x]
  | y::l=>if key x < key y then x::y::l else y::ins key x l
def isort (key:Int→Int):List Int→List Int
  | []=>[]
  | x::l=>ins key x (isort key l)
def effs (es:List co):List Int:=places (fun e=>decide (e.fEffect > 0)) es
def order (es:List co):List Int:=isort (eff es) (effs es)
def over (es:List co) (at_:Int):List Int:=places (fun e=>decide (e.fBegin ≤ at_) && (e.fEffect == 0 || decide (e.fEffect > at_))) es
def done (es:List co):List Int:=places (fun e=>e.fEnd != 0) es
def endOf (ends:List (Int × Int)) (c:Int):Option Int:=(ends.find? (fun p=>p.1 == c)).map (·.2)
def stops (ends:List (Int × Int)) (e:co):Bool:=match endOf ends e.fCore with
  | some n=>decide (n ≤ 0) || decide (e.fBegin ≤ n)
  | none=>false
def mayFrom (s:kQ):List co→Int→List Int→List (Int × Int)→Bool
  | [],_,_,_=>true
  | e::es,last,seen,ends=>if fA e s last = false∨(e.fEffect > 0∧e.fEffect ∈ seen) then false else if stops ends e = true then false else mayFrom s es e.fBegin (e.fEffect::seen) ((e.fCore,e.fEnd)::ends)
def may (es:List co) (s:kQ):Bool:=mayFrom s es 0 [] []
theorem placesFrom_app (P:co→Bool) (e:co):∀ (es:List co) (i:Int),placesFrom P (es++[e]) i = placesFrom P es i++(if P e = true then [i + es.length] else [])
  | [],i=>by simp only [List.nil_append,placesFrom]; split <;> simp
  | d::es,i=>by
    simp only [List.cons_append,placesFrom]
    rw [placesFrom_app P e es (i + 1)]
    have e1:i + 1 + (es.length:Int) = i + ((d::es).length:Int):=by simp; omega
    rw [e1]
    split <;> simp
theorem placesFrom_len (P:co→Bool):∀ (es:List co) (i:Int),(placesFrom P es i).length ≤ es.length
  | [],_=>Nat.le_refl _
  | e::es,i=>by unfold placesFrom; have:=placesFrom_len P es (i + 1); split <;> simp <;> omega
theorem placesFrom_c (P:co→Bool) (d:co) (es:List co) (i:Int):placesFrom P (d::es) i = if P d = true then i::placesFrom P es (i + 1) else placesFrom P es (i + 1):=rfl
theorem mem_placesFrom {P:co→Bool} {x:Int}:∀ {es:List co} {i:Int},x ∈ placesFrom P es i↔∃ (n:Nat) (e:co),es[n]? = some e∧x = i + n∧P e = true
  | [],i=>by simp [placesFrom]
  | d::es,i=>by
    have ih:=mem_placesFrom (P:=P) (x:=x) (es:=es) (i:=i + 1)
    have sp:(∃ (n:Nat) (e:co),(d::es)[n]? = some e∧x = i + n∧P e = true)↔(x = i∧P d = true)∨∃ (n:Nat) (e:co),es[n]? = some e∧x = i + 1 + n∧P e = true:=by
      constructor
      · rintro ⟨n,e,h1,h2,h3⟩
        cases n with
        | zero=>simp at h1; subst h1; exact .inl ⟨by simpa using h2,h3⟩
        | succ n=>exact .inr ⟨n,e,by simpa using h1,by omega,h3⟩
      · rintro (⟨h2,h3⟩ | ⟨n,e,h1,h2,h3⟩)
        · exact ⟨0,d,rfl,by simpa using h2,h3⟩
        · exact ⟨n + 1,e,by simpa using h1,by omega,h3⟩
    rw [sp,← ih,placesFrom_c]
    split
    · rename_i hd
      rw [List.mem_cons]
      constructor
      · rintro (h | h)
        · exact .inl ⟨h,hd⟩
        · exact .inr h
      · rintro (h | h)
        · exact .inl h.1
        · exact .inr h
    · rename_i hd
      constructor
      · exact .inr
      · rintro (h | h)
        · exact absurd h.2 hd
        · exact h
theorem mem_places {P:co→Bool} {x:Int} {es:List co}:x ∈ places P es↔∃ (n:Nat) (e:co),es[n]? = some e∧x = n∧P e = true:=by
  unfold places
  rw [mem_placesFrom]
  simp
theorem places_in {P:co→Bool} {x:Int} {es:List co} (h:x ∈ places P es):0 ≤ x∧x < es.length:=by
  obtain ⟨n,e,h1,rfl,_⟩:=mem_places.1 h
  have:=(List.getElem?_eq_some_iff.1 h1).1
  omega
theorem ins_perm (key:Int→Int) (x:Int):∀ l,(ins key x l).Perm (x::l)
  | []=>.refl _
  | y::l=>by
    unfold ins; split
    · exact .refl _
    · exact ((ins_perm key x l).cons y).trans (.swap _ _ _)
theorem isort_perm (key:Int→Int):∀ l,(isort key l).Perm l
  | []=>.refl _
  | x::l=>(ins_perm key x _).trans ((isort_perm key l).cons x)
theorem ins_up (key:Int→Int) (x:Int):∀ l,Up key l→Up key (ins key x l)
  | [],_=>List.pairwise_singleton _ _
  | y::l,h=>by
    obtain ⟨h1,h2⟩:=List.pairwise_cons.1 h
    unfold ins; split
    · rename_i hx
      refine List.pairwise_cons.2 ⟨fun z hz=>?_,h⟩
      rcases List.mem_cons.1 hz with rfl | hz
      · omega
      · have:=h1 z hz; omega
    · rename_i hx
      refine List.pairwise_cons.2 ⟨fun z hz=>?_,ins_up key x l h2⟩
      rcases List.mem_cons.1 ((ins_perm key x l).subset hz) with rfl | hz
      · omega
      · exact h1 z hz
theorem isort_up (key:Int→Int):∀ l,Up key (isort key l)
  | []=>.nil
  | x::l=>ins_up key x _ (isort_up key l)
def Apart (es:List co):Prop:=∀ a b,a ∈ effs es→b ∈ effs es→eff es a = eff es b→a = b
theorem order_of {es:List co} (ha:Apart es) {l:List Int} (hp:l.Perm (effs es)) (hu:Up (eff es) l):l = order es:=by
  refine List.Perm.eq_of_pairwise (le:=fun x y=>eff es x ≤ eff es y) (fun a b h1 h2 h3 h4=>?_) hu (isort_up _ _) (hp.trans (isort_perm _ _).symm)
  exact ha a b (hp.subset h1) ((isort_perm _ _).subset h2) (by omega)
theorem mayFrom_apart {s:kQ}:∀ {es:List co} {last:Int} {seen:List Int} {ends:List (Int × Int)},mayFrom s es last seen ends = true →
    (∀ (n:Nat) e,es[n]? = some e→e.fEffect > 0→e.fEffect ∉ seen)∧∀ (n m:Nat) e d,es[n]? = some e→es[m]? = some d→e.fEffect > 0→e.fEffect = d.fEffect→n = m
  | [],_,_,_,_=>⟨fun n e h=>by simp at h,fun n m e d h=>by simp at h⟩
  | e0::es,last,seen,ends,h=>by
    unfold mayFrom at h
    split at h
    · cases h
    · split at h
      · cases h
      · rename_i h1 _
        obtain ⟨i1,i2⟩:=mayFrom_apart h
        have h0:e0.fEffect > 0→e0.fEffect ∉ seen:=fun hp hm=>h1 (.inr ⟨hp,hm⟩)
        refine ⟨fun n e hn hp=>?_,fun n m e d hn hm hp he=>?_⟩
        · cases n with
          | zero=>simp at hn; subst hn; exact h0 hp
          | succ n=>exact fun hm=>i1 n e (by simpa using hn) hp (by simp [hm])
        · cases n with
          | zero =>
            cases m with
            | zero=>rfl
            | succ m =>
              simp at hn; subst hn
              exact absurd (by simp [he]) (i1 m d (by simpa using hm) (by omega))
          | succ n =>
            cases m with
            | zero =>
              simp at hm; subst hm
              exact absurd (by simp [he]) (i1 n e (by simpa using hn) hp)
            | succ m=>rw [i2 n m e d (by simpa using hn) (by simpa using hm) hp he]
theorem eff_nat {es:List co} {n:Nat} {e:co} (h:es[n]? = some e):eff es n = e.fEffect:=by simp [eff,h]
theorem may_apart {es:List co} {s:kQ} (h:may es s = true):Apart es:=by
  intro a b ha hb he
  obtain ⟨n,e,h1,rfl,h2⟩:=mem_places.1 ha
  obtain ⟨m,d,h3,rfl,h4⟩:=mem_places.1 hb
  rw [eff_nat h1,eff_nat h3] at he
  rw [(mayFrom_apart h).2 n m e d h1 h3 (by simpa using h2) he]
end Hist
theorem sp_hist_places (s:Sl) (es:List co) (v:Value) (P:co→Bool) (A:List As) (hb:es.length < 2 ^ 38)
    (hv:∀ e ∈ es,SpV Tryz.prog v [.agg e.C.toArray] aK (vE s es::A) (fun r=>pa_ (r = P e) (vE s es::A))) :
    Sp Tryz.prog qc [sv s,v] cJ (vE s es::A) (fun r=>aP (vI r (Hist.places P es)::vE s es::A)):=by
  intro h s0
  have hl:=(cq (j:=0) s0 rfl).1
  refine sim_hist_places _ _ ?_
  unfold sh_hist_places
  refine Lp.intro (fun (z:Sl × Int) h=>∃ n:Nat,z.2 = n∧n ≤ es.length∧aP (vI z.1 (Hist.placesFrom P (es.take n) 0)::vE s es::A) h) (fun (z:Sl × Int) _=>es.length - z.2.toNat) ⟨0,rfl,Nat.zero_le _,fI s0⟩ ?_
  rintro ⟨z,i⟩ h ⟨n,rfl,hn,s1⟩
  unfold sW
  refine bk (fun k=>?_) (fun k=>?_)
  · have hlt:n < es.length:=by rw [hl] at k; simpa using k
    have hw:IntKind.i64.wrap ((n:Int) + 1) = ((n + 1:Nat):Int):=by rw [cf (by omega) (by omega)]; rfl
    have ht:es.take (n + 1) = es.take n++[es[n]]:=by simp
    have hlen:((es.take n).length:Int) = n:=by simp; omega
    have hpl:=Hist.placesFrom_len P (es.take n) 0
    simp at hpl
    refine dE s1 (j:=1) rfl (by omega) (by show (n:Int) < _; omega) fun q hq=>?_
    refine eC (j:=1) (i:=n) (k:=0) es[n] np s1 rfl hq rfl (aO hlt) (by simp) ?_
    refine clv_t (hv es[n] (List.getElem_mem hlt)) s1 fun r h2 s2=>?_
    obtain ⟨hr,s3⟩:=bF.1 s2
    have s4:=star_rot s3
    rw [hw]
    refine bk (fun k2=>?_) (fun k2=>?_)
    · refine vM s4 (i:=0) rfl (by omega) fun v h' s5=>?_
      refine ⟨⟨n + 1,rfl,hlt,?_⟩,by simp; omega⟩
      rw [ht,Hist.placesFrom_app,if_pos (by rw [← hr,k2]),hlen,Int.zero_add]
      exact s5
    · refine ⟨⟨n + 1,rfl,hlt,?_⟩,by simp; omega⟩
      rw [ht,Hist.placesFrom_app,if_neg (by rw [← hr,k2]; exact Bool.false_ne_true),List.append_nil]
      exact s4
  · have:n = es.length:=by rw [hl] at k; simp at k; omega
    subst this
    rw [List.take_length] at s1
    exact s1
theorem cmp_neg (x y:Int):fL x y < 0↔x < y:=by
  unfold fL eD
  simp only [bne_self_eq_false,cond_false]
  by_cases h1:x < y
  · simp [h1]
  · by_cases h2:x > y
    · simp [h1,h2]
    · simp [h1,h2]
theorem sp_hist_Over (s:Sl) (es:List co) (a:Int) (hb:es.length < 2 ^ 38):Sp Tryz.prog n_hist_Over [sv s,.int .i64 a] cJ [vE s es] (fun r=>aP [vI r (Hist.over es a),vE s es]):=by
  intro h s0
  refine sim_hist_Over _ _ ?_
  unfold sh_hist_Over
  refine oS s0 fun b3 h1 s1=>?_
  refine cW [1,0] (sp_hist_places s es _ (fun e=>decide (e.fBegin ≤ a) && (e.fEffect == 0 || decide (e.fEffect > a))) [blk b3 kH [.int .i64 a]] hb ?_) s1 rfl fun r h2 s2=>?_
  · intro e he
    refine ⟨_,_,_,rfl,enter_hist_Over_c1,fun h s3=>?_⟩
    refine sim_hist_Over_c1 e b3 ?_
    unfold sh_hist_Over_c1
    refine bB a s3 (i:=1) rfl rfl rfl ?_
    refine bk (fun k=>?_) (fun k=>?_)
    · refine bB a s3 (i:=1) rfl rfl rfl ?_
      rw [Bool.and_eq_true] at k
      refine bi ?_ s3
      have k2:(e.fEffect == 0) = false:=by simpa using k.2
      rw [k.1,k2]; rfl
    · refine bi ?_ s3
      cases k1:decide (e.fBegin ≤ a) with
      | false=>rfl
      | true =>
        rw [k1] at k
        have k2:(e.fEffect == 0) = true:=by simpa using k
        rw [k2]; rfl
  · have s3:=dG s2
    exact nv (l:=[vI r (Hist.over es a),vE s es]) s3
theorem sp_hist_Order20 (s:Sl) (es:List co) (hb:es.length ≤ 20) (ha:Hist.Apart es):Sp Tryz.prog oH [sv s] cJ [vE s es] (fun r=>aP [vI r (Hist.order es),vE s es]):=by
  intro h s0
  refine sim_hist_Order _ ?_
  unfold sh_hist_Order
  refine oS s0 fun b1 h1 s1=>?_
  refine bB s s1 (i:=0) rfl rfl rfl ?_
  refine cW [1,0] (sp_hist_places s es _ (fun e=>decide (e.fEffect > 0)) [blk b1 eM [sv s]] (by omega) ?_) s1 rfl fun r h2 s2=>?_
  · intro e he
    refine ⟨_,_,_,rfl,enter_hist_Order_c1,fun h s3=>?_⟩
    exact (ct_hist_Order_c1 e h).mono fun v h' ⟨r,hv,hr,hh⟩=>⟨r,hv,hr,by rw [hh]; exact s3⟩
  · have s3:=dG s2
    have hpl:=Hist.placesFrom_len (fun e=>decide (e.fEffect > 0)) es 0
    refine cW [0,0,0] (sp_SortStable20 r _ [vE s es,blk b1 eM [sv s]] (Hist.eff es) (fun x=>0 ≤ x∧x < es.length) ?_ (Hist.effs es) (fun x hx=>Hist.places_in hx) (by unfold Hist.effs Hist.places; omega)) s3 rfl fun u h4 s4=>?_
    · rintro x y ⟨hx0,hx⟩ ⟨hy0,hy⟩
      refine ⟨_,_,_,rfl,enter_hist_Order_c2,fun h s5=>?_⟩
      obtain ⟨n,rfl⟩:=Int.eq_ofNat_of_zero_le hx0
      obtain ⟨m,rfl⟩:=Int.eq_ofNat_of_zero_le hy0
      have hn:n < es.length:=by omega
      have hm:m < es.length:=by omega
      refine sim_hist_Order_c2 n m b1 ?_
      unfold uX
      refine bB s s5 (i:=1) rfl rfl rfl ?_
      refine dE s5 (j:=0) rfl (by omega) (by omega) fun q hq=>?_
      refine eC (j:=0) (i:=n) (k:=8) es[n].fEffect np s5 rfl hq rfl (aO hn) (c1 rfl rfl) ?_
      refine bB s s5 (i:=1) rfl rfl rfl ?_
      refine dE s5 (j:=0) rfl (by omega) (by omega) fun q2 hq2=>?_
      refine eC (j:=0) (i:=m) (k:=8) es[m].fEffect np s5 rfl hq2 rfl (aO hm) (c1 rfl rfl) ?_
      refine bi ?_ s5
      rw [cmp_neg,Hist.eff_nat (aO hn),Hist.eff_nat (aO hm)]
    · obtain ⟨g1,g2,d,rfl,⟨m',⟨p1,p2⟩,s5⟩,s6⟩:=s4
      rw [Hist.order_of ha p1 p2] at s5
      exact sc (nv (l:=[vI r (Hist.order es),vE s es]) s5) d
theorem sp_hist_May (s:Sl) (es:List co) (z:kQ) (hb:es.length < 2 ^ 38):Sp Tryz.prog wM [sv s,.agg z.C.toArray] aK [vE s es] (fun r=>pa_ (r = Hist.may es z) [vE s es]):=by
  intro h s0
  have hl:=(cq (j:=0) s0 rfl).1
  refine sim_hist_May _ _ ?_
  unfold sh_hist_May
  refine makeMap_m (τ:=Bool) (val:=fun x=>.bool x) rfl s0 fun b1 h1 s1=>?_
  refine makeMap_m (τ:=Int) (val:=fun x=>.int .i64 x) rfl s1 fun b2 h2 s2=>?_
  refine Lp.intro (fun (y:Int × Int) h=>∃ (n:Nat) (seen:List Int) (ends:List (Int × Int)),y.2 = n∧n ≤ es.length∧Hist.mayFrom z (es.drop n) y.1 seen ends = Hist.may es z∧aP [mapA b2 (fun x=>Value.int .i64 x) (Hist.endOf ends),mapA b1 (fun x=>Value.bool x) (fun x=>if x ∈ seen then some true else none),vE s es] h) (fun (y:Int × Int) _=>es.length - y.2.toNat) ⟨0,[],[],rfl,Nat.zero_le _,rfl,?_⟩ ?_
  · have e1:(fun x:Int=>if x ∈ ([]:List Int) then some true else none) = fun _=>none:=by funext x; simp
    have e2:Hist.endOf [] = fun _=>none:=by funext x; rfl
    rw [e1,e2]; exact s2
  rintro ⟨last,i⟩ h ⟨n,seen,ends,rfl,hn,he,s3⟩
  unfold hist_May_l1
  simp only at he ⊢
  refine bk (fun k=>?_) (fun k=>?_)
  · have hlt:n < es.length:=by rw [hl] at k; simpa using k
    have hw:IntKind.i64.wrap ((n:Int) + 1) = ((n + 1:Nat):Int):=by rw [cf (by omega) (by omega)]; rfl
    rw [List.drop_eq_getElem_cons hlt,Hist.mayFrom] at he
    refine dE s3 (j:=2) rfl (by omega) (by omega) fun q hq=>?_
    refine eC (j:=2) (i:=n) (k:=0) es[n] np s3 rfl hq rfl (aO hlt) (by simp) ?_
    have rest:¬ (fA es[n] z last = false∨(es[n].fEffect > 0∧es[n].fEffect ∈ seen))→∀ K:(Int × Int)→Hp→Prop,
        (∀ (s':Int × Int) h',s'.1 = es[n].fBegin∧s'.2 = ((n + 1:Nat):Int)→Hist.stops ends es[n] = false→aP [mapA b2 (fun x=>Value.int .i64 x) (Hist.endOf ((es[n].fCore,es[n].fEnd)::ends)),mapA b1 (fun x=>Value.bool x) (fun x=>if x ∈ es[n].fEffect::seen then some true else none),vE s es] h'→K s' h') →
        hpv Tryz.prog (Instr.lookup gR (.map (some b2)) (.int .i64 es[n].fCore) true) bW (fun (v40:Int × Bool) =>
          br (v40.2 && ((decide (v40.1 ≤ 0)) || (decide (es[n].fBegin ≤ v40.1)))) (pa_ (false = Hist.may es z) [vE s es]) (
          hpu Tryz.prog (Instr.mapUpdate jo (.map (some b1)) (.int .i64 es[n].fEffect) (.bool true)) <|
          hpu Tryz.prog (Instr.mapUpdate gR (.map (some b2)) (.int .i64 es[n].fCore) (.int .i64 es[n].fEnd)) <|
          K (es[n].fBegin,((n + 1:Nat):Int)))) h:=by
      intro hno K hK
      rw [if_neg hno] at he
      refine lookup_m (j:=0) mp_map_int_int s3 rfl ((Hist.endOf ends es[n].fCore).getD 0,(Hist.endOf ends es[n].fCore).isSome) ?_ ?_
      · rw [if_pos rfl]; unfold bW
        cases Hist.endOf ends es[n].fCore <;> rfl
      · have hst:((Hist.endOf ends es[n].fCore).isSome && ((decide ((Hist.endOf ends es[n].fCore).getD 0 ≤ 0)) || (decide (es[n].fBegin ≤ (Hist.endOf ends es[n].fCore).getD 0)))) = Hist.stops ends es[n]:=by
          unfold Hist.stops
          cases Hist.endOf ends es[n].fCore <;> simp
        show br ((Hist.endOf ends es[n].fCore).isSome && ((decide ((Hist.endOf ends es[n].fCore).getD 0 ≤ 0)) || (decide (es[n].fBegin ≤ (Hist.endOf ends es[n].fCore).getD 0)))) _ _ h
        rw [hst]
        refine bk (fun k2=>?_) (fun k2=>?_)
        · rw [if_pos k2] at he
          exact bi he (ct (l:=[_,_]) s3)
        · refine update_m (j:=1) (w:=true) mp_map_int_bool s3 rfl rfl fun h4 s4=>?_
          refine update_m (j:=0) (w:=es[n].fEnd) mp_map_int_int s4 rfl rfl fun h5 s5=>?_
          refine hK _ _ ⟨rfl,rfl⟩ k2 ?_
          have e1:(fun y=>if y = es[n].fCore then some es[n].fEnd else Hist.endOf ends y) = Hist.endOf ((es[n].fCore,es[n].fEnd)::ends):=by
            funext y
            unfold Hist.endOf
            by_cases hy:y = es[n].fCore
            · subst hy; simp
            · have:(es[n].fCore == y) = false:=by simpa using fun e=>hy e.symm
              simp [hy,this]
          have e2:(fun y=>if y = es[n].fEffect then some true else if y ∈ seen then some true else none) = fun x=>if x ∈ es[n].fEffect::seen then some true else none:=by
            funext y
            by_cases hy:y = es[n].fEffect <;> simp [hy]
          rw [← e1,← e2]
          exact s5
    have go:¬ (fA es[n] z last = false∨(es[n].fEffect > 0∧es[n].fEffect ∈ seen))→∀ (s':Int × Int) h',s'.1 = es[n].fBegin∧s'.2 = ((n + 1:Nat):Int)→Hist.stops ends es[n] = false→aP [mapA b2 (fun x=>Value.int .i64 x) (Hist.endOf ((es[n].fCore,es[n].fEnd)::ends)),mapA b1 (fun x=>Value.bool x) (fun x=>if x ∈ es[n].fEffect::seen then some true else none),vE s es] h' →
        (∃ (n:Nat) (seen:List Int) (ends:List (Int × Int)),s'.2 = n∧n ≤ es.length∧Hist.mayFrom z (es.drop n) s'.1 seen ends = Hist.may es z∧aP [mapA b2 (fun x=>Value.int .i64 x) (Hist.endOf ends),mapA b1 (fun x=>Value.bool x) (fun x=>if x ∈ seen then some true else none),vE s es] h')∧es.length - s'.2.toNat < es.length - (n:Int).toNat:=by
      rintro hno ⟨u,w⟩ h' ⟨h4,h5⟩ hst s4
      simp only at h4 h5
      subst h4; subst h5
      rw [if_neg hno,if_neg (by rw [hst]; exact Bool.false_ne_true)] at he
      exact ⟨⟨n + 1,_,_,rfl,hlt,he,s4⟩,by simp; omega⟩
    rw [hw]
    refine bk (fun k2=>?_) (fun k2=>?_)
    · rw [Bool.and_eq_true] at k2
      have k1:fA es[n] z last = true:=by simpa using k2.1
      have kp:es[n].fEffect > 0:=by simpa using k2.2
      refine lookup_m (j:=1) mp_map_int_bool s3 rfl (decide (es[n].fEffect ∈ seen)) ?_ ?_
      · rw [if_neg Bool.false_ne_true]; unfold aK
        by_cases hm:es[n].fEffect ∈ seen <;> simp [hm]
      · refine bk (fun k3=>?_) (fun k3=>?_)
        · have hm:es[n].fEffect ∈ seen:=of_decide_eq_true k3
          rw [if_pos (.inr ⟨kp,hm⟩)] at he
          exact bi he (ct (l:=[_,_]) s3)
        · have hm:es[n].fEffect ∉ seen:=of_decide_eq_false k3
          have hno:¬ (fA es[n] z last = false∨(es[n].fEffect > 0∧es[n].fEffect ∈ seen)):=by simp [k1,hm]
          exact rest hno _ (go hno)
    · refine bk (fun k3=>?_) (fun k3=>?_)
      · have k1:fA es[n] z last = false:=by simpa using k3
        rw [if_pos (.inl k1)] at he
        exact bi he (ct (l:=[_,_]) s3)
      · have k1:fA es[n] z last = true:=by simpa using k3
        have kp:¬ es[n].fEffect > 0:=by simp [k1] at k2; omega
        have hno:¬ (fA es[n] z last = false∨(es[n].fEffect > 0∧es[n].fEffect ∈ seen)):=by simp [k1]; intro hh; exact absurd hh kp
        exact rest hno _ (go hno)
  · have:n = es.length:=by rw [hl] at k; simp at k; omega
    subst this
    rw [List.drop_length] at he
    exact bi he (ct (l:=[_,_]) s3)
end Go.Proofs.YtniiiakkdoiaiaaGreatDoor
namespace Go.Proofs.YtniiiakkdoiaiaaGreatDoor
open Go Mb
set_option linter.unusedVariables false
def dU (a2:Int) (a3:Int) (q22:Nat × Nat) (Rec9:(Sl × Int)→Hp→Prop) (s8:Sl × Int) (x49:aM) (s22:Bool):Hp→Prop:=br s22 ( ld (q22.1,q22.2 + 4) cP fun x65=>cl Tryz.prog gB [(pv x65)] dP fun r66=>cl Tryz.prog dD [(pv r66),(.int .i64 x49.fEnv),(.agg (ap.C x49.fCall).toArray)] bz fun r72=>cl Tryz.prog fM [(pv r66),(.int .i64 a2),(.int .i64 a3)] cH fun r77=>hpv Tryz.prog (Instr.buildSlice pE 1 #[(0,(.agg (ar.C r77.1).toArray))]) pY fun (v82:Sl)=>hpv Tryz.prog (Builtin.append_ #[pE,pE] pE #[(sv s8.1),(sv v82)]) pY fun (v83:Sl)=>Rec9 (v83,(IntKind.i64.wrap (s8.2 + 1)))) ( Rec9 (s8.1,(IntKind.i64.wrap (s8.2 + 1))))
def kB (a2:Int) (a3:Int) (K:Sl→Hp→Prop) (q22:Nat × Nat) (r37:Sl) (Rec9:(Sl × Int)→Hp→Prop) (s8:Sl × Int):Hp→Prop:=br (decide (s8.2 < (r37.len:Int))) ( ix r37 s8.2 fun q41=>ld (q41.1,q41.2 + Int.toNat s8.2 * 1) (cI .i64) fun x42=>ld (q22.1,q22.2 + 0) cS fun x46=>ix x46 x42 fun q48=>ld (q48.1,q48.2 + Int.toNat x42 * 16) aM.C fun x49=>br (((aN x49.fCall).1) == 7) ( dU a2 a3 q22 Rec9 s8 x49 (((aN x49.fCall).1) == 7)) ( br (((aN x49.fCall).1) == 8) ( dU a2 a3 q22 Rec9 s8 x49 (((aN x49.fCall).1) == 8)) ( br (((aN x49.fCall).1) == 4) ( dU a2 a3 q22 Rec9 s8 x49 (((aN x49.fCall).1) == 4)) ( dU a2 a3 q22 Rec9 s8 x49 (((aN x49.fCall).1) == 5))))) ( K s8.1)
def ph (a0:Ptr) (a1:Int) (a2:Int) (a3:Int) (K:Sl→Hp→Prop):Hp→Prop:=nn a0 fun q22=>ld (q22.1,q22.2 + 4) cP fun x24=>cl Tryz.prog fM [(pv x24),(.int .i64 a2),(.int .i64 a3)] cH fun r27=>hpv Tryz.prog (Instr.buildSlice pE 1 #[(0,(.agg (ar.C r27.1).toArray))]) pY fun (v31:Sl)=>ld (q22.1,q22.2 + 0) cS fun x35=>cl Tryz.prog n_hist_Over [(sv x35),(.int .i64 a1)] cJ fun r37=>Lp (kB a2 a3 K q22 r37) (v31,0)
set_option maxRecDepth 20000 in
theorem wt (a0:Ptr) (a1:Int) (a2:Int) (a3:Int) {K:Sl→Hp→Prop} {h:Hp} (H:ph a0 a1 a2 a3 K h):Ct Tryz.prog lq #[(pv a0),(.int .i64 a1),(.int .i64 a2),(.int .i64 a3)] h fun v h'=>∃ r,v = pY r∧K r h':=aD [(pv a0),(.int .i64 a1),(.int .i64 a2),(.int .i64 a3)] Tryz.func163 rfl rfl rfl fun _=>ah<|ac<|aa (ag rfl) rfl<|ae<|ah<|ac<|aa (ad rfl) rfl<|bQ H fun q22 e1 H2=>aa (aV (aW rfl (ax e1))) rfl<|aa (an vv rfl) rfl<|ak (bg H2 vh rfl (fun _=>rfl) rfl fun x24 H3=>aa (ad rfl) rfl<|aa (ad rfl) rfl<|ak (aB H3 en_81 rfl rfl fun r27 _ H4=>aa (ad rfl) rfl<|aa (aq rfl rfl) rfl<|aa (aq rfl rfl) rfl<|ak (aY (l:=(ar.C (⟨0,0,0⟩:ar))) fT rfl rfl fun b9=>ak (aZ (k:=0) (vs:=(ar.C r27.1)) dV rfl rfl rfl rfl rfl rfl rfl<|aa (ag rfl) rfl<|ae<|ah<|ac<|bw (bP (k:=0) fD rfl rfl rfl rfl) rfl<|ak (be H4 (bJ (vs:=[(.agg (ar.C r27.1).toArray)]) rfl) rfl fun v31 _ H5=>aa (ag rfl) rfl<|ae<|ah<|ah<|ac<|aa (ad (aW rfl (ax e1))) rfl<|aa (aV rfl) rfl<|aa (an fld_168_0 rfl) rfl<|ak (bg H5 sc_39 rfl (fun _=>rfl) rfl fun x35 H6=>aa (ad rfl) rfl<|ak (aB H6 en_21 rfl rfl fun r37 _ H7=>aa (dB rfl Tryz.underlying41 rfl) rfl<|aa (ad rfl) rfl<|ae<|aF<|bO (step:=kB a2 a3 K q22 r37) (fun s8=>[(0,(pv a0)),(2,(.int .i64 a2)),(3,(.int .i64 a3)),(11,(sv s8.1)),(37,(sv r37)),(38,(.int .i64 (r37.len:Int))),(39,(.int .i64 s8.2))]) (fun s8=>[]) H7 (.cons rfl (.cons rfl (.cons rfl (.cons rfl (.cons rfl (.cons rfl (.cons rfl (.nil _)))))))) (.cons _ .slnil) (fun Rec9 s8 _ H10=>ah<|ac<|aa (cx rfl rfl) rfl<|ae<|ah<|aC rfl H10 (fun k11 H12=>av<|ah<|aF<|ah<|ac<|cw H12 fun q41 e13 h14 H15=>aa (bD iu (aW rfl (bn e13)) rfl h14) rfl<|ak (bg H15 bj rfl (fun _=>rfl) rfl fun x42 H16=>aa (ag rfl) rfl<|ae<|ah<|ac<|aa (ad (aW rfl (ax e1))) rfl<|aa (aV rfl) rfl<|aa (an fld_168_0 rfl) rfl<|ak (bg H16 sc_39 rfl (fun _=>rfl) rfl fun x46 H17=>aa (ad rfl) rfl<|cw H17 fun q48 e18 h19 H20=>aa (bD sw (aW rfl (bn e18)) rfl h19) rfl<|ak (gI H20 ag_51 rfl (fun _=>rfl) rfl fun x49 H21=>ak (aY (l:=(aM.C (⟨0,0,(⟨0,0,0,0,0⟩:ap),0,0,0,(⟨0,0⟩:al),(⟨0,0,0,0⟩:au)⟩:aM))) zero_51 rfl rfl fun b14=>ak (aZ (k:=0) (vs:=(aM.C x49)) inf_51 rfl rfl rfl rfl rfl rfl rfl<|ae<|ah<|ac<|aa (an mM rfl) rfl<|bw (bP (k:=0) fw rfl rfl rfl rfl) rfl<|ak (cM (vs:=[(.agg (ap.C x49.fCall).toArray)]) (bG (jV x49.fCall _)) en_64 rfl rfl<|aa (ad rfl) rfl<|aa (aq rfl rfl) rfl<|aa (aq rfl rfl) rfl<|aa (ag rfl) rfl<|aa (ag rfl) rfl<|ae<|ah<|ac<|aa (ad rfl) rfl<|ae<|aF<|eB (dU a2 a3 q22 Rec9 s8 x49) (fun s22=>[(0,(pv a0)),(2,(.int .i64 a2)),(3,(.int .i64 a3)),(11,(sv s8.1)),(14,(.pointer (some ⟨b14,0,none⟩))),(37,(sv r37)),(38,(.int .i64 (r37.len:Int))),(39,(.int .i64 s8.2)),(57,(.bool s22))]) (fun s22=>[bx b14 51 (aM.C x49)]) ( ah<|ac<|aa (bV rfl rfl) rfl<|aa (ag rfl) rfl<|ae<|aC rfl H21 (fun k32 H33=>av<|cF (((aN x49.fCall).1) == 7) H33 (.cons rfl (.cons rfl (.cons rfl (.cons rfl (.cons rfl (.cons rfl (.cons rfl (.cons rfl (.cons rfl (.nil _)))))))))) (.cons_cons _ .slnil)) (fun k32 H33=>ah<|ac<|aa (bV rfl rfl) rfl<|aa (ag rfl) rfl<|ae<|aC rfl H33 (fun k34 H35=>av<|cF (((aN x49.fCall).1) == 8) H35 (.cons rfl (.cons rfl (.cons rfl (.cons rfl (.cons rfl (.cons rfl (.cons rfl (.cons rfl (.cons rfl (.nil _)))))))))) (.cons_cons _ .slnil)) (fun k34 H35=>ah<|ac<|aa (bV rfl rfl) rfl<|aa (ag rfl) rfl<|ae<|aC rfl H35 (fun k36 H37=>av<|cF (((aN x49.fCall).1) == 4) H37 (.cons rfl (.cons rfl (.cons rfl (.cons rfl (.cons rfl (.cons rfl (.cons rfl (.cons rfl (.cons rfl (.nil _)))))))))) (.cons_cons _ .slnil)) (fun k36 H37=>ac<|aa (bV rfl rfl) rfl<|aa (ag rfl) rfl<|ae<|cF (((aN x49.fCall).1) == 5) H37 (.cons rfl (.cons rfl (.cons rfl (.cons rfl (.cons rfl (.cons rfl (.cons rfl (.cons rfl (.cons rfl (.nil _)))))))))) (.cons_cons _ .slnil))))) (fun s22 _ H23=>aC rfl H23 (fun k24 H25=>ah<|ac<|aa (ad (aW rfl (ax e1))) rfl<|aa (aV rfl) rfl<|aa (an vv rfl) rfl<|ak (bg H25 vh rfl (fun _=>rfl) rfl fun x65 H26=>ak (aB H26 en_164 rfl rfl fun r66 _ H27=>aa (ag rfl) rfl<|ae<|ah<|ac<|aa (ad rfl) rfl<|aa (an oL rfl) rfl<|bw (bm (k:=0) bj rfl rfl rfl) rfl<|aa (an mM rfl) rfl<|bw (bP (k:=0) fw rfl rfl rfl rfl) rfl<|ak (aB H27 en_73 rfl rfl fun r72 _ H28=>ae<|ah<|ac<|aa (ad rfl) rfl<|aa (ad rfl) rfl<|aa (ad rfl) rfl<|ak (aB H28 en_81 rfl rfl fun r77 _ H29=>aa (ad rfl) rfl<|aa (aq rfl rfl) rfl<|aa (aq rfl rfl) rfl<|ak (aY (l:=(ar.C (⟨0,0,0⟩:ar))) fT rfl rfl fun b18=>ak (aZ (k:=0) (vs:=(ar.C r77.1)) dV rfl rfl rfl rfl rfl rfl rfl<|aa (ag rfl) rfl<|ae<|ac<|aa (ad rfl) rfl<|bw (bP (k:=0) fD rfl rfl rfl rfl) rfl<|ak (be H29 (bJ (vs:=[(.agg (ar.C r77.1).toArray)]) rfl) rfl fun v82 _ H30=>ak (be H30 (dK rfl rfl) rfl fun v83 _ H31=>aa (ag rfl) rfl<|ae<|ac<|aa (bI rfl rfl) rfl<|aa (ad rfl) rfl<|ae<|cT (v83,(IntKind.i64.wrap (s8.2 + 1))) H31 (.cons rfl (.cons rfl (.cons rfl (.cons rfl (.cons rfl (.cons rfl (.cons rfl (.nil _)))))))) (.cons _ (.cons _ .slnil))))))))))) (fun k24 H25=>av<|ac<|aa (bI rfl rfl) rfl<|aa (ad rfl) rfl<|ae<|cT (s8.1,(IntKind.i64.wrap (s8.2 + 1))) H25 (.cons rfl (.cons rfl (.cons rfl (.cons rfl (.cons rfl (.cons rfl (.cons rfl (.nil _)))))))) (.cons _ .slnil)))))))))) (fun k11 H12=>bA<|ah<|ac<|aa (ad rfl) rfl<|aa (ag rfl) rfl<|ae<|ao<|aw (az rfl (aE rfl)) ⟨s8.1,rfl,H12⟩)))))))))
def kC (a1:aM) (K:Bool→Hp→Prop) (q18:Nat × Nat) (r50:Sl) (Rec13:(Bool × Bool × Int)→Hp→Prop) (s12:Bool × Bool × Int):Hp→Prop:=br (decide (s12.2.2 < (r50.len:Int))) ( ix r50 s12.2.2 fun q54=>ld (q54.1,q54.2 + Int.toNat s12.2.2 * 3) ar.C fun x55=>Rec13 ((s12.1 || (!(du x55.fRights (IntKind.i64.wrap a1.fCall.e0)))),(s12.2.1 || ((x55.fFrame == a1.fLine.fFrame) && (bu a1.fLine.fRights x55.fRights))),(IntKind.i64.wrap (s12.2.2 + 1)))) ( br (a1.fAnswer.fErr == 7) ( K ((s12.1 && (a1.fAnswer.fVal == 0)) && (au.eqb a1.fLine (⟨0,0,0,0⟩:au)))) ( ld (q18.1,q18.2 + 4) cP fun x103=>cl Tryz.prog gB [(pv x103)] dP fun r104=>cl Tryz.prog eV [(pv r104),(.int .i64 a1.fLine.fFrame),(.agg (ap.C a1.fCall).toArray)] bz fun r110=>K (((s12.2.1 && (((a1.fLine.fEnv == a1.fEnv) && (a1.fLine.fPage == (IntKind.i64.wrap a1.fCall.e1))) && (du a1.fLine.fRights (IntKind.i64.wrap a1.fCall.e0)))) && r110.2) && (al.eqb r110.1 a1.fAnswer))))
def pj (a0:Ptr) (a1:aM) (K:Bool→Hp→Prop):Hp→Prop:=nn a0 fun q18=>ld (q18.1,q18.2 + 1 + 1) (cI .i64) fun x21=>cl Tryz.prog gM [(.agg (ap.C a1.fCall).toArray),(.int .i64 x21)] bv fun r22=>br (r22 != 0) ( K ((al.eqb a1.fAnswer (⟨r22,0⟩:al)) && (au.eqb a1.fLine (⟨0,0,0,0⟩:au)))) ( cl Tryz.prog lq [(.pointer (some ⟨q18.1,q18.2,none⟩)),(.int .i64 a1.fEffect),(.int .i64 a1.fEnv),(.int .i64 (IntKind.i64.wrap a1.fCall.e1))] pY fun r50=>Lp (kC a1 K q18 r50) (false,false,0))
set_option maxRecDepth 20000 in
theorem wu (a0:Ptr) (a1:aM) {K:Bool→Hp→Prop} {h:Hp} (H:pj a0 a1 K h):Ct Tryz.prog lr #[(pv a0),(.agg (aM.C a1).toArray)] h fun v h'=>∃ r,v = aK r∧K r h':=aD [(pv a0),(.agg (aM.C a1).toArray)] Tryz.func121 rfl rfl rfl fun _=>ah<|ac<|ak (cC (l:=(aM.C a1)) rfl rfl rfl fun b3=>aa (ag rfl) rfl<|ae<|ah<|ah<|bC (n:=9) [bx b3 51 (aM.C a1)] cy rfl (.cons_cons _ .slnil)<|ai (i:=0) (fun _ _ _ _=>id) rfl (by kernel_rfl) rfl (ve (an mM rfl))<|ai (i:=1) (fun _ _ _ _=>id) rfl (by kernel_rfl) rfl (ef (k:=0) fw rfl rfl rfl rfl)<|ai (i:=2) (fun _ _ _ _=>id) rfl (by kernel_rfl) rfl (ve (ad rfl))<|gO H fun q18 e1 H2=>ai (i:=3) (fun _ _ _ _=>id) rfl (by kernel_rfl) rfl (ve (aV (aW rfl (ax e1))))<|ai (i:=4) (fun _ _ _ _=>id) rfl (by kernel_rfl) rfl (ve (an fld_168_1 rfl))<|ai (i:=5) (fun _ _ _ _=>id) rfl (by kernel_rfl) rfl (ve (an ki rfl))<|bR (i:=6) (fun _ _ _ _=>id) H2 rfl (by kernel_rfl) bj rfl (fun _=>rfl) rfl fun x21 H3=>bh (i:=7) (by kernel_rfl) (aI rfl rfl (aB H3 en_95 rfl rfl fun r22 _ H4=>⟨(.cons_cons _ .slnil),ai (i:=8) (fun _ _ _ _=>id) rfl (by kernel_rfl) rfl (ve (ag rfl))<|bf (by kernel_rfl)<|ah<|ac<|aa (ad rfl) rfl<|aa (qk rfl rfl) rfl<|ae<|aC rfl H4 (fun k5 H6=>ah<|ac<|aa (an ke rfl) rfl<|bw (bP (k:=0) cL rfl rfl rfl rfl) rfl<|aa (ad rfl) rfl<|aa (bo rfl (jf r22)) rfl<|aa (v_eqA eqg_47 (eqr_47 9998 _ _) rfl rfl) rfl<|aa (ad rfl) rfl<|aj rfl rfl rfl (aA _) (fun g7=>wv (an gb rfl)) rfl<|aj rfl rfl rfl (aA _) (fun g8=>cv (bP (k:=0) gX (aJ rfl g8) rfl rfl rfl)) rfl<|aj rfl rfl rfl (aA _) (fun g9=>wv (bo (vs:=[]) rfl lC)) rfl<|aj rfl rfl rfl (aA _) (fun g10=>wv (v_eqA eqg_49 (eqr_49 9998 _ _) (aJ rfl g10) (aJ rfl g10))) rfl<|aa (bU rfl rfl) rfl<|aa (ag rfl) rfl<|ae<|ao<|aw (az rfl (aE rfl)) ⟨((al.eqb a1.fAnswer (⟨r22,0⟩:al)) && (au.eqb a1.fLine (⟨0,0,0,0⟩:au))),rfl,H6⟩) (fun k5 H6=>av<|ah<|bC (n:=10) [bx b3 51 (aM.C a1)] cy rfl (.cons_cons _ .slnil)<|ai (i:=0) (fun _ _ _ _=>id) rfl (by kernel_rfl) rfl (ve (an mM rfl))<|ai (i:=1) (fun _ _ _ _=>id) rfl (by kernel_rfl) rfl (ve (bK di rfl rfl (by decide)))<|ai (i:=2) (fun _ _ _ _=>id) rfl (by kernel_rfl) rfl (dm (k:=0) cE rfl rfl rfl)<|ai (i:=3) (fun _ _ _ _=>id) rfl (by kernel_rfl) rfl (ve (eo ⟨_,Tryz.underlying25⟩ Tryz.underlying3 rfl))<|ai (i:=4) (fun _ _ _ _=>id) rfl (by kernel_rfl) rfl (ve (an mM rfl))<|ai (i:=5) (fun _ _ _ _=>id) rfl (by kernel_rfl) rfl (ve (bK di rfl rfl (by decide)))<|ai (i:=6) (fun _ _ _ _=>id) rfl (by kernel_rfl) rfl (dm (k:=0) cE rfl rfl rfl)<|ai (i:=7) (fun _ _ _ _=>id) rfl (by kernel_rfl) rfl (ve (eo ⟨_,Tryz.underlying25⟩ Tryz.underlying3 rfl))<|ai (i:=8) (fun _ _ _ _=>id) rfl (by kernel_rfl) rfl (ve (ag rfl))<|ai (i:=9) (fun _ _ _ _=>id) rfl (by kernel_rfl) rfl (ve (ag rfl))<|bf (by kernel_rfl)<|ah<|ac<|aa (ag rfl) rfl<|aa (ag rfl) rfl<|ae<|ah<|ah<|ac<|aa (ad (aW rfl (ax e1))) rfl<|aa (an iV rfl) rfl<|bw (bm (k:=0) bj rfl rfl rfl) rfl<|aa (an oL rfl) rfl<|bw (bm (k:=0) bj rfl rfl rfl) rfl<|aa (ad rfl) rfl<|ak (aB H6 en_163 rfl rfl fun r50 _ H11=>aa (dB rfl Tryz.underlying211 rfl) rfl<|aa (ad rfl) rfl<|ae<|aF<|bO (step:=kC a1 K q18 r50) (fun s12=>[(0,(pv a0)),(3,(.pointer (some ⟨b3,0,none⟩))),(6,(.int .i64 (IntKind.i64.wrap a1.fCall.e1))),(7,(.int .i64 (IntKind.i64.wrap a1.fCall.e0))),(8,(.bool s12.1)),(9,(.bool s12.2.1)),(50,(sv r50)),(51,(.int .i64 (r50.len:Int))),(52,(.int .i64 s12.2.2))]) (fun s12=>[bx b3 51 (aM.C a1)]) H11 (.cons rfl (.cons rfl (.cons rfl (.cons rfl (.cons rfl (.cons rfl (.cons rfl (.cons rfl (.cons rfl (.nil _)))))))))) (.cons_cons _ .slnil) (fun Rec13 s12 _ H14=>ah<|ac<|aa (cx rfl rfl) rfl<|ae<|ah<|aC rfl H14 (fun k15 H16=>av<|ah<|aF<|ah<|ac<|cw H16 fun q54 e17 h18 H19=>aa (bD slc_211 (aW rfl (bn e17)) rfl h18) rfl<|ak (gI H19 fD rfl (fun _=>rfl) rfl fun x55 H20=>ak (aY (l:=(ar.C (⟨0,0,0⟩:ar))) fT rfl rfl fun b11=>ak (aZ (k:=0) (vs:=(ar.C x55)) dV rfl rfl rfl rfl rfl rfl rfl<|ae<|ah<|ac<|aa (ad rfl) rfl<|aa (ad rfl) rfl<|aj rfl rfl rfl (aS _) (fun g21=>wv (an eK rfl)) rfl<|aj rfl rfl rfl (aS _) (fun g22=>cv (bm (k:=0) bj (aJ rfl g22) rfl rfl)) rfl<|aj rfl rfl rfl (aS _) (fun g23=>wv (ad rfl)) rfl<|de (vs:=[(.int .i64 x55.fRights),(.int .i64 (IntKind.i64.wrap a1.fCall.e0))]) rfl rfl rfl (aS _) (fun g24=>(bG (jJ x55.fRights (IntKind.i64.wrap a1.fCall.e0) _))) en_142 (fun g24=>(ba (aJ rfl g24) (ba (aJ rfl g24) bY))) rfl<|aj rfl rfl rfl (aS _) (fun g25=>wv (cD (aJ rfl g25))) rfl<|aa (dr rfl rfl) rfl<|aa (ag rfl) rfl<|ae<|ac<|aa (ad rfl) rfl<|aa (ad rfl) rfl<|aj rfl rfl rfl (aS _) (fun g26=>wv (an qH rfl)) rfl<|aj rfl rfl rfl (aS _) (fun g27=>cv (bm (k:=0) bj (aJ rfl g27) rfl rfl)) rfl<|aj rfl rfl rfl (aS _) (fun g28=>wv (an gb rfl)) rfl<|aj rfl rfl rfl (aS _) (fun g29=>wv (an ly (aJ rfl g29))) rfl<|aj rfl rfl rfl (aS _) (fun g30=>cv (bm (k:=1) bj (aJ rfl g30) rfl rfl)) rfl<|aj rfl rfl rfl (aS _) (fun g31=>wv (bV (aJ rfl g31) (aJ rfl g31))) rfl<|aj rfl rfl rfl (aS _) (fun g32=>wv (ad (aJ rfl g32))) rfl<|aj rfl rfl rfl (rf _ _) (fun g33=>wv (an gb rfl)) rfl<|aj rfl rfl rfl (rf _ _) (fun g34=>wv (an qK (aJ rfl g34))) rfl<|aj rfl rfl rfl (rf _ _) (fun g35=>cv (bm (k:=1) bj (aJ rfl g35) rfl rfl)) rfl<|aj rfl rfl rfl (rf _ _) (fun g36=>wv (an eK rfl)) rfl<|aj rfl rfl rfl (rf _ _) (fun g37=>cv (bm (k:=0) bj (aJ rfl g37) rfl rfl)) rfl<|de (vs:=[(.int .i64 a1.fLine.fRights),(.int .i64 x55.fRights)]) rfl rfl rfl (rf _ _) (fun g38=>(bG (df a1.fLine.fRights x55.fRights _))) mw (fun g38=>(ba (aJ rfl g38) (ba (aJ rfl g38) bY))) rfl<|aj rfl rfl rfl (aS _) (fun g39=>wv (bU (aJ rfl g39) (aW rfl (wU g39)))) rfl<|aa (dr rfl rfl) rfl<|aa (ag rfl) rfl<|ae<|ac<|aa (bI rfl rfl) rfl<|aa (ad rfl) rfl<|ae<|cT ((s12.1 || (!(du x55.fRights (IntKind.i64.wrap a1.fCall.e0)))),(s12.2.1 || ((x55.fFrame == a1.fLine.fFrame) && (bu a1.fLine.fRights x55.fRights))),(IntKind.i64.wrap (s12.2.2 + 1))) H20 (.cons rfl (.cons rfl (.cons rfl (.cons rfl (.cons rfl (.cons rfl (.cons rfl (.cons rfl (.cons rfl (.nil _)))))))))) (.cons _ (.cons_cons _ .slnil)))))) (fun k15 H16=>bA<|ah<|ah<|ac<|aa (an ke rfl) rfl<|aa (an kh rfl) rfl<|bw (bm (k:=0) ov rfl rfl rfl) rfl<|aa (bV rfl rfl) rfl<|ae<|aC rfl H16 (fun k40 H41=>ah<|ac<|aa (ad rfl) rfl<|aa (ad rfl) rfl<|aj rfl rfl rfl (aA _) (fun g42=>wv (an ke rfl)) rfl<|aj rfl rfl rfl (aA _) (fun g43=>wv (an fld_47_1 (aJ rfl g43))) rfl<|aj rfl rfl rfl (aA _) (fun g44=>cv (bm (k:=0) cE (aJ rfl g44) rfl rfl)) rfl<|aj rfl rfl rfl (aA _) (fun g45=>wv (bV (aJ rfl g45) rfl)) rfl<|aa (bU rfl rfl) rfl<|aa (ad rfl) rfl<|aj rfl rfl rfl (aA _) (fun g46=>wv (an gb rfl)) rfl<|aj rfl rfl rfl (aA _) (fun g47=>cv (bP (k:=0) gX (aJ rfl g47) rfl rfl rfl)) rfl<|aj rfl rfl rfl (aA _) (fun g48=>wv (bo (vs:=[]) rfl lC)) rfl<|aj rfl rfl rfl (aA _) (fun g49=>wv (v_eqA eqg_49 (eqr_49 9998 _ _) (aJ rfl g49) (aJ rfl g49))) rfl<|aa (bU rfl rfl) rfl<|aa (ag rfl) rfl<|ae<|ao<|aw (az rfl (aE rfl)) ⟨((s12.1 && (a1.fAnswer.fVal == 0)) && (au.eqb a1.fLine (⟨0,0,0,0⟩:au))),rfl,H41⟩) (fun k40 H41=>av<|ah<|bC (n:=17) [bx b3 51 (aM.C a1)] cy rfl (.cons_cons _ .slnil)<|ai (i:=0) (fun _ _ _ _=>id) rfl (by kernel_rfl) rfl (ve (ad (aW rfl (ax e1))))<|ai (i:=1) (fun _ _ _ _=>id) rfl (by kernel_rfl) rfl (ve (aV rfl))<|ai (i:=2) (fun _ _ _ _=>id) rfl (by kernel_rfl) rfl (ve (an vv rfl))<|ai (i:=5) (fun _ _ _ _=>id) rfl (by kernel_rfl) rfl (ve (an gb rfl))<|ai (i:=6) (fun _ _ _ _=>id) rfl (by kernel_rfl) rfl (ve (an ly rfl))<|ai (i:=7) (fun _ _ _ _=>id) rfl (by kernel_rfl) rfl (dm (k:=0) bj rfl rfl rfl)<|ai (i:=8) (fun _ _ _ _=>id) rfl (by kernel_rfl) rfl (ve (an mM rfl))<|ai (i:=9) (fun _ _ _ _=>id) rfl (by kernel_rfl) rfl (ef (k:=0) fw rfl rfl rfl rfl)<|bR (i:=3) (fun _ _ _ _=>id) H41 rfl (by kernel_rfl) vh rfl (fun _=>rfl) rfl fun x103 H50=>jg (i:=4) (j:=14) (by kernel_rfl) (aI rfl rfl (aB H50 en_164 rfl rfl fun r104 _ H52=>⟨(.cons_cons _ .slnil),jg (i:=10) (j:=14) (by kernel_rfl) (aI rfl rfl (aB H52 en_99 rfl rfl fun r110 _ H54=>⟨(.cons_cons _ .slnil),ai (i:=11) (fun _ _ _ _=>id) rfl (by kernel_rfl) rfl (ve (ad rfl))<|ai (i:=12) (fun _ _ _ _=>id) rfl (by kernel_rfl) rfl (ve (aq rfl rfl))<|ai (i:=13) (fun _ _ _ _=>id) rfl (by kernel_rfl) rfl (ve (aq rfl rfl))<|bh (i:=14) (by kernel_rfl) (aI rfl rfl (aY (l:=(al.C (⟨0,0⟩:al))) dh rfl rfl fun b12=>⟨(.cons _ (.cons_cons _ .slnil)),bh (i:=15) (by kernel_rfl) (aI rfl rfl (aZ (k:=0) (vs:=(al.C r110.1)) bX rfl rfl rfl rfl rfl rfl rfl<|⟨(.cons _ (.cons_cons _ .slnil)),ai (i:=16) (fun _ _ _ _=>id) rfl (by kernel_rfl) rfl (ve (ag rfl))<|bf (by kernel_rfl)<|ah<|ac<|aa (an gb rfl) rfl<|aa (an kg rfl) rfl<|bw (bm (k:=1) bj rfl rfl rfl) rfl<|aa (an oL rfl) rfl<|bw (bm (k:=1) bj rfl rfl rfl) rfl<|aa (bV rfl rfl) rfl<|aa (ad rfl) rfl<|aj rfl rfl rfl (aA _) (fun g55=>wv (an gb rfl)) rfl<|aj rfl rfl rfl (aA _) (fun g56=>wv (an mN (aJ rfl g56))) rfl<|aj rfl rfl rfl (aA _) (fun g57=>cv (bm (k:=1) bj (aJ rfl g57) rfl rfl)) rfl<|aj rfl rfl rfl (aA _) (fun g58=>wv (ad rfl)) rfl<|aj rfl rfl rfl (aA _) (fun g59=>wv (bV (aJ rfl g59) (aJ rfl g59))) rfl<|aa (bU rfl rfl) rfl<|aa (ad rfl) rfl<|aj rfl rfl rfl (aA _) (fun g60=>wv (an gb rfl)) rfl<|aj rfl rfl rfl (aA _) (fun g61=>wv (an qK (aJ rfl g61))) rfl<|aj rfl rfl rfl (aA _) (fun g62=>cv (bm (k:=1) bj (aJ rfl g62) rfl rfl)) rfl<|aj rfl rfl rfl (aA _) (fun g63=>wv (ad rfl)) rfl<|de (vs:=[(.int .i64 a1.fLine.fRights),(.int .i64 (IntKind.i64.wrap a1.fCall.e0))]) rfl rfl rfl (aA _) (fun g64=>(bG (jJ a1.fLine.fRights (IntKind.i64.wrap a1.fCall.e0) _))) en_142 (fun g64=>(ba (aJ rfl g64) (ba (aJ rfl g64) bY))) rfl<|aa (bU rfl rfl) rfl<|aa (ag rfl) rfl<|ae<|ah<|ac<|aa (ad rfl) rfl<|aa (ad rfl) rfl<|aj rfl rfl rfl (aA _) (fun g65=>wv (ad rfl)) rfl<|aa (bU rfl rfl) rfl<|aa (ad rfl) rfl<|aj rfl rfl rfl (aA _) (fun g66=>wv (ad rfl)) rfl<|aa (bU rfl rfl) rfl<|aa (ad rfl) rfl<|aj rfl rfl rfl (aA _) (fun g67=>cv (bP (k:=0) cL rfl rfl rfl rfl)) rfl<|aj rfl rfl rfl (aA _) (fun g68=>wv (an ke rfl)) rfl<|aj rfl rfl rfl (aA _) (fun g69=>cv (bP (k:=1) cL (aJ rfl g69) rfl rfl rfl)) rfl<|aj rfl rfl rfl (aA _) (fun g70=>wv (v_eqA eqg_47 (eqr_47 9998 _ _) (aJ rfl g70) (aJ rfl g70))) rfl<|aa (bU rfl rfl) rfl<|aa (ag rfl) rfl<|ae<|ao<|aw (az rfl (aE rfl)) ⟨(((s12.2.1 && (((a1.fLine.fEnv == a1.fEnv) && (a1.fLine.fPage == (IntKind.i64.wrap a1.fCall.e1))) && (du a1.fLine.fRights (IntKind.i64.wrap a1.fCall.e0)))) && r110.2) && (al.eqb r110.1 a1.fAnswer)),rfl,H54⟩⟩))⟩))⟩)) (aI rfl rfl (aY (l:=(al.C (⟨0,0⟩:al))) dh rfl rfl fun b12=>⟨(.cons _ (.cons_cons _ .slnil)),bh (i:=10) (by kernel_rfl) (aI rfl rfl (aB H52 en_99 rfl rfl fun r110 _ H54=>⟨(.cons _ (.cons_cons _ .slnil)),ai (i:=11) (fun _ _ _ _=>id) rfl (by kernel_rfl) rfl (ve (ad rfl))<|ai (i:=12) (fun _ _ _ _=>id) rfl (by kernel_rfl) rfl (ve (aq rfl rfl))<|ai (i:=13) (fun _ _ _ _=>id) rfl (by kernel_rfl) rfl (ve (aq rfl rfl))<|bh (i:=15) (by kernel_rfl) (aI rfl rfl (aZ (k:=0) (vs:=(al.C r110.1)) bX rfl rfl rfl rfl rfl rfl rfl<|⟨(.cons _ (.cons_cons _ .slnil)),ai (i:=16) (fun _ _ _ _=>id) rfl (by kernel_rfl) rfl (ve (ag rfl))<|bf (by kernel_rfl)<|ah<|ac<|aa (an gb rfl) rfl<|aa (an kg rfl) rfl<|bw (bm (k:=1) bj rfl rfl rfl) rfl<|aa (an oL rfl) rfl<|bw (bm (k:=1) bj rfl rfl rfl) rfl<|aa (bV rfl rfl) rfl<|aa (ad rfl) rfl<|aj rfl rfl rfl (aA _) (fun g55=>wv (an gb rfl)) rfl<|aj rfl rfl rfl (aA _) (fun g56=>wv (an mN (aJ rfl g56))) rfl<|aj rfl rfl rfl (aA _) (fun g57=>cv (bm (k:=1) bj (aJ rfl g57) rfl rfl)) rfl<|aj rfl rfl rfl (aA _) (fun g58=>wv (ad rfl)) rfl<|aj rfl rfl rfl (aA _) (fun g59=>wv (bV (aJ rfl g59) (aJ rfl g59))) rfl<|aa (bU rfl rfl) rfl<|aa (ad rfl) rfl<|aj rfl rfl rfl (aA _) (fun g60=>wv (an gb rfl)) rfl<|aj rfl rfl rfl (aA _) (fun g61=>wv (an qK (aJ rfl g61))) rfl<|aj rfl rfl rfl (aA _) (fun g62=>cv (bm (k:=1) bj (aJ rfl g62) rfl rfl)) rfl<|aj rfl rfl rfl (aA _) (fun g63=>wv (ad rfl)) rfl<|de (vs:=[(.int .i64 a1.fLine.fRights),(.int .i64 (IntKind.i64.wrap a1.fCall.e0))]) rfl rfl rfl (aA _) (fun g64=>(bG (jJ a1.fLine.fRights (IntKind.i64.wrap a1.fCall.e0) _))) en_142 (fun g64=>(ba (aJ rfl g64) (ba (aJ rfl g64) bY))) rfl<|aa (bU rfl rfl) rfl<|aa (ag rfl) rfl<|ae<|ah<|ac<|aa (ad rfl) rfl<|aa (ad rfl) rfl<|aj rfl rfl rfl (aA _) (fun g65=>wv (ad rfl)) rfl<|aa (bU rfl rfl) rfl<|aa (ad rfl) rfl<|aj rfl rfl rfl (aA _) (fun g66=>wv (ad rfl)) rfl<|aa (bU rfl rfl) rfl<|aa (ad rfl) rfl<|aj rfl rfl rfl (aA _) (fun g67=>cv (bP (k:=0) cL rfl rfl rfl rfl)) rfl<|aj rfl rfl rfl (aA _) (fun g68=>wv (an ke rfl)) rfl<|aj rfl rfl rfl (aA _) (fun g69=>cv (bP (k:=1) cL (aJ rfl g69) rfl rfl rfl)) rfl<|aj rfl rfl rfl (aA _) (fun g70=>wv (v_eqA eqg_47 (eqr_47 9998 _ _) (aJ rfl g70) (aJ rfl g70))) rfl<|aa (bU rfl rfl) rfl<|aa (ag rfl) rfl<|ae<|ao<|aw (az rfl (aE rfl)) ⟨(((s12.2.1 && (((a1.fLine.fEnv == a1.fEnv) && (a1.fLine.fPage == (IntKind.i64.wrap a1.fCall.e1))) && (du a1.fLine.fRights (IntKind.i64.wrap a1.fCall.e0)))) && r110.2) && (al.eqb r110.1 a1.fAnswer)),rfl,H54⟩⟩))⟩))⟩))⟩)) (aI rfl rfl (aY (l:=(al.C (⟨0,0⟩:al))) dh rfl rfl fun b12=>⟨(.cons _ (.cons_cons _ .slnil)),bh (i:=4) (by kernel_rfl) (aI rfl rfl (aB H50 en_164 rfl rfl fun r104 _ H52=>⟨(.cons _ (.cons_cons _ .slnil)),bh (i:=10) (by kernel_rfl) (aI rfl rfl (aB H52 en_99 rfl rfl fun r110 _ H53=>⟨(.cons _ (.cons_cons _ .slnil)),ai (i:=11) (fun _ _ _ _=>id) rfl (by kernel_rfl) rfl (ve (ad rfl))<|ai (i:=12) (fun _ _ _ _=>id) rfl (by kernel_rfl) rfl (ve (aq rfl rfl))<|ai (i:=13) (fun _ _ _ _=>id) rfl (by kernel_rfl) rfl (ve (aq rfl rfl))<|bh (i:=15) (by kernel_rfl) (aI rfl rfl (aZ (k:=0) (vs:=(al.C r110.1)) bX rfl rfl rfl rfl rfl rfl rfl<|⟨(.cons _ (.cons_cons _ .slnil)),ai (i:=16) (fun _ _ _ _=>id) rfl (by kernel_rfl) rfl (ve (ag rfl))<|bf (by kernel_rfl)<|ah<|ac<|aa (an gb rfl) rfl<|aa (an kg rfl) rfl<|bw (bm (k:=1) bj rfl rfl rfl) rfl<|aa (an oL rfl) rfl<|bw (bm (k:=1) bj rfl rfl rfl) rfl<|aa (bV rfl rfl) rfl<|aa (ad rfl) rfl<|aj rfl rfl rfl (aA _) (fun g54=>wv (an gb rfl)) rfl<|aj rfl rfl rfl (aA _) (fun g55=>wv (an mN (aJ rfl g55))) rfl<|aj rfl rfl rfl (aA _) (fun g56=>cv (bm (k:=1) bj (aJ rfl g56) rfl rfl)) rfl<|aj rfl rfl rfl (aA _) (fun g57=>wv (ad rfl)) rfl<|aj rfl rfl rfl (aA _) (fun g58=>wv (bV (aJ rfl g58) (aJ rfl g58))) rfl<|aa (bU rfl rfl) rfl<|aa (ad rfl) rfl<|aj rfl rfl rfl (aA _) (fun g59=>wv (an gb rfl)) rfl<|aj rfl rfl rfl (aA _) (fun g60=>wv (an qK (aJ rfl g60))) rfl<|aj rfl rfl rfl (aA _) (fun g61=>cv (bm (k:=1) bj (aJ rfl g61) rfl rfl)) rfl<|aj rfl rfl rfl (aA _) (fun g62=>wv (ad rfl)) rfl<|de (vs:=[(.int .i64 a1.fLine.fRights),(.int .i64 (IntKind.i64.wrap a1.fCall.e0))]) rfl rfl rfl (aA _) (fun g63=>(bG (jJ a1.fLine.fRights (IntKind.i64.wrap a1.fCall.e0) _))) en_142 (fun g63=>(ba (aJ rfl g63) (ba (aJ rfl g63) bY))) rfl<|aa (bU rfl rfl) rfl<|aa (ag rfl) rfl<|ae<|ah<|ac<|aa (ad rfl) rfl<|aa (ad rfl) rfl<|aj rfl rfl rfl (aA _) (fun g64=>wv (ad rfl)) rfl<|aa (bU rfl rfl) rfl<|aa (ad rfl) rfl<|aj rfl rfl rfl (aA _) (fun g65=>wv (ad rfl)) rfl<|aa (bU rfl rfl) rfl<|aa (ad rfl) rfl<|aj rfl rfl rfl (aA _) (fun g66=>cv (bP (k:=0) cL rfl rfl rfl rfl)) rfl<|aj rfl rfl rfl (aA _) (fun g67=>wv (an ke rfl)) rfl<|aj rfl rfl rfl (aA _) (fun g68=>cv (bP (k:=1) cL (aJ rfl g68) rfl rfl rfl)) rfl<|aj rfl rfl rfl (aA _) (fun g69=>wv (v_eqA eqg_47 (eqr_47 9998 _ _) (aJ rfl g69) (aJ rfl g69))) rfl<|aa (bU rfl rfl) rfl<|aa (ag rfl) rfl<|ae<|ao<|aw (az rfl (aE rfl)) ⟨(((s12.2.1 && (((a1.fLine.fEnv == a1.fEnv) && (a1.fLine.fPage == (IntKind.i64.wrap a1.fCall.e1))) && (du a1.fLine.fRights (IntKind.i64.wrap a1.fCall.e0)))) && r110.2) && (al.eqb r110.1 a1.fAnswer)),rfl,H53⟩⟩))⟩))⟩))⟩)))))))⟩)))
def rx (a0:Ptr) (a1:aM) (K:Bool→Hp→Prop):Hp→Prop:=br (a1.fAnswer.fErr == 0) ( nn a0 fun q13=>ld (q13.1,q13.2 + 1 + 1) (cI .i64) fun x16=>cl Tryz.prog gM [(.agg (ap.C a1.fCall).toArray),(.int .i64 x16)] bv fun r17=>br (r17 == 0) ( K (a1.fLine.fRights != 0)) ( K false)) ( K false)
set_option maxRecDepth 20000 in
theorem sim_judge_judge_well (a0:Ptr) (a1:aM) {K:Bool→Hp→Prop} {h:Hp} (H:rx a0 a1 K h):Ct Tryz.prog nh #[(pv a0),(.agg (aM.C a1).toArray)] h fun v h'=>∃ r,v = aK r∧K r h':=aD [(pv a0),(.agg (aM.C a1).toArray)] Tryz.func122 rfl rfl rfl fun _=>ah<|ac<|ak (cC (l:=(aM.C a1)) rfl rfl rfl fun b3=>aa (ag rfl) rfl<|ae<|ah<|bC (n:=22) [bx b3 51 (aM.C a1)] cy rfl (.cons_cons _ .slnil)<|ai (i:=0) (fun _ _ _ _=>id) rfl (by kernel_rfl) rfl (ve (an ke rfl))<|ai (i:=1) (fun _ _ _ _=>id) rfl (by kernel_rfl) rfl (ve (an kh rfl))<|ai (i:=2) (fun _ _ _ _=>id) rfl (by kernel_rfl) rfl (dm (k:=0) ov rfl rfl rfl)<|ai (i:=3) (fun _ _ _ _=>id) rfl (by kernel_rfl) rfl (ve (bV rfl rfl))<|ai (i:=4) (fun _ _ _ _=>id) rfl (by kernel_rfl) rfl (ve (ad rfl))<|pU H (fun k1 H2=>ch (i:=5) (fun _ _ _ _=>id) rfl (by kernel_rfl) rfl rfl rfl rfl (congrArg Value.bool k1) (ve (an mM rfl))<|ch (i:=6) (fun _ _ _ _=>id) rfl (by kernel_rfl) rfl rfl rfl rfl (congrArg Value.bool k1) (ef (k:=0) fw rfl rfl rfl rfl)<|ch (i:=7) (fun _ _ _ _=>id) rfl (by kernel_rfl) rfl rfl rfl rfl (congrArg Value.bool k1) (ve (ad rfl))<|gO H2 fun q13 e3 H4=>ch (i:=8) (fun _ _ _ _=>id) rfl (by kernel_rfl) rfl rfl rfl rfl (congrArg Value.bool k1) (ve (aV (aW rfl (ax e3))))<|ch (i:=9) (fun _ _ _ _=>id) rfl (by kernel_rfl) rfl rfl rfl rfl (congrArg Value.bool k1) (ve (an fld_168_1 rfl))<|ch (i:=10) (fun _ _ _ _=>id) rfl (by kernel_rfl) rfl rfl rfl rfl (congrArg Value.bool k1) (ve (an ki rfl))<|lZ (i:=11) (fun _ _ _ _=>id) H4 rfl (by kernel_rfl) rfl rfl rfl (congrArg Value.bool k1) bj rfl (fun _=>rfl) rfl fun x16 H5=>bh (i:=12) (by kernel_rfl) (way_on rfl rfl rfl rfl (congrArg Value.bool k1) (aB H5 en_95 rfl rfl fun r17 _ H6=>⟨(.cons_cons _ .slnil),ch (i:=13) (fun _ _ _ _=>id) rfl (by kernel_rfl) rfl rfl rfl rfl (congrArg Value.bool k1) (ve (bV rfl rfl))<|ai (i:=14) (fun _ _ _ _=>id) rfl (by kernel_rfl) rfl (ve (bd rfl k1 rfl))<|ai (i:=15) (fun _ _ _ _=>id) rfl (by kernel_rfl) rfl (ve (ad rfl))<|pU H6 (fun k7 H8=>ch (i:=16) (fun _ _ _ _=>id) rfl (by kernel_rfl) rfl rfl rfl rfl (congrArg Value.bool k7) (ve (an gb rfl))<|ch (i:=17) (fun _ _ _ _=>id) rfl (by kernel_rfl) rfl rfl rfl rfl (congrArg Value.bool k7) (ve (an qK rfl))<|ch (i:=18) (fun _ _ _ _=>id) rfl (by kernel_rfl) rfl rfl rfl rfl (congrArg Value.bool k7) (dm (k:=0) bj rfl rfl rfl)<|ch (i:=19) (fun _ _ _ _=>id) rfl (by kernel_rfl) rfl rfl rfl rfl (congrArg Value.bool k7) (ve (qk rfl rfl))<|ai (i:=20) (fun _ _ _ _=>id) rfl (by kernel_rfl) rfl (ve (bd rfl k7 rfl))<|ai (i:=21) (fun _ _ _ _=>id) rfl (by kernel_rfl) rfl (ve (ag rfl))<|bf (by kernel_rfl)<|ao<|aw (az rfl (aE rfl)) ⟨(a1.fLine.fRights != 0),rfl,H8⟩) (fun k7 H8=>bb (i:=16) (fun _ _ _ _=>id) rfl (by kernel_rfl) rfl rfl rfl rfl (bc k7)<|bb (i:=17) (fun _ _ _ _=>id) rfl (by kernel_rfl) rfl rfl rfl rfl (bc k7)<|bb (i:=18) (fun _ _ _ _=>id) rfl (by kernel_rfl) rfl rfl rfl rfl (bc k7)<|bb (i:=19) (fun _ _ _ _=>id) rfl (by kernel_rfl) rfl rfl rfl rfl (bc k7)<|ai (i:=20) (fun _ _ _ _=>id) rfl (by kernel_rfl) rfl (ve (ay rfl k7 rfl))<|ai (i:=21) (fun _ _ _ _=>id) rfl (by kernel_rfl) rfl (ve (ag rfl))<|bf (by kernel_rfl)<|ao<|aw (az rfl (aE rfl)) ⟨false,rfl,H8⟩)⟩))) (fun k1 H2=>bb (i:=5) (fun _ _ _ _=>id) rfl (by kernel_rfl) rfl rfl rfl rfl (bc k1)<|bb (i:=6) (fun _ _ _ _=>id) rfl (by kernel_rfl) rfl rfl rfl rfl (bc k1)<|bb (i:=7) (fun _ _ _ _=>id) rfl (by kernel_rfl) rfl rfl rfl rfl (bc k1)<|bb (i:=8) (fun _ _ _ _=>id) rfl (by kernel_rfl) rfl rfl rfl rfl (bc k1)<|bb (i:=9) (fun _ _ _ _=>id) rfl (by kernel_rfl) rfl rfl rfl rfl (bc k1)<|bb (i:=10) (fun _ _ _ _=>id) rfl (by kernel_rfl) rfl rfl rfl rfl (bc k1)<|bb (i:=11) (fun _ _ _ _=>id) rfl (by kernel_rfl) rfl rfl rfl rfl (bc k1)<|bb (i:=12) (fun _ _ _ _=>id) rfl (by kernel_rfl) rfl rfl rfl rfl (bc k1)<|bb (i:=13) (fun _ _ _ _=>id) rfl (by kernel_rfl) rfl rfl rfl rfl (bc k1)<|ai (i:=14) (fun _ _ _ _=>id) rfl (by kernel_rfl) rfl (ve (ay rfl k1 rfl))<|ai (i:=15) (fun _ _ _ _=>id) rfl (by kernel_rfl) rfl (ve (ad rfl))<|bb (i:=16) (fun _ _ _ _=>id) rfl (by kernel_rfl) rfl rfl rfl rfl rfl<|bb (i:=17) (fun _ _ _ _=>id) rfl (by kernel_rfl) rfl rfl rfl rfl rfl<|bb (i:=18) (fun _ _ _ _=>id) rfl (by kernel_rfl) rfl rfl rfl rfl rfl<|bb (i:=19) (fun _ _ _ _=>id) rfl (by kernel_rfl) rfl rfl rfl rfl rfl<|ai (i:=20) (fun _ _ _ _=>id) rfl (by kernel_rfl) rfl (ve (ay rfl rfl rfl))<|ai (i:=21) (fun _ _ _ _=>id) rfl (by kernel_rfl) rfl (ve (ag rfl))<|bf (by kernel_rfl)<|ao<|aw (az rfl (aE rfl)) ⟨false,rfl,H2⟩))
def rQ (b25:Nat) (Rec8:Int→Hp→Prop) (s7:Int) (x36:aM) (s22:Unit):Hp→Prop:=cl Tryz.prog nh [(.pointer (some ⟨b25,0,none⟩)),(.agg (aM.C x36).toArray)] aK fun r49=>br r49 ( ld (b25,4) cP fun x53=>cl Tryz.prog eV [(pv x53),(.int .i64 x36.fLine.fFrame),(.agg (ap.C x36.fCall).toArray)] bz fun r59=>Rec8 (IntKind.i64.wrap (s7 + 1))) ( Rec8 (IntKind.i64.wrap (s7 + 1)))
def rP (K:(Int × Bool)→Hp→Prop) (b25:Nat) (Rec8:Int→Hp→Prop) (s7:Int) (x32:Int) (x36:aM) (s29:Bool):Hp→Prop:=br s29 ( K (x32,false)) ( rQ b25 Rec8 s7 x36 ())
def wR (a0:Sl) (a2:Bool) (a3:Bool) (K:(Int × Bool)→Hp→Prop) (b25:Nat) (r27:Sl) (Rec8:Int→Hp→Prop) (s7:Int):Hp→Prop:=br (decide (s7 < (r27.len:Int))) ( ix r27 s7 fun q31=>ld (q31.1,q31.2 + Int.toNat s7 * 1) (cI .i64) fun x32=>ix a0 x32 fun q35=>ld (q35.1,q35.2 + Int.toNat x32 * 16) aM.C fun x36=>br (pZ x36) ( br a3 ( cl Tryz.prog lr [(.pointer (some ⟨b25,0,none⟩)),(.agg (aM.C x36).toArray)] aK fun r43=>rP K b25 Rec8 s7 x32 x36 (!r43)) ( rP K b25 Rec8 s7 x32 x36 false)) ( ld (b25,4) cP fun x64=>cl Tryz.prog dD [(pv x64),(.int .i64 x36.fEnv),(.agg (ap.C x36.fCall).toArray)] bz fun r69=>br (a2 && ((!r69.2) || (!(al.eqb r69.1 x36.fAnswer)))) ( K (x32,false)) ( Rec8 (IntKind.i64.wrap (s7 + 1))))) ( K ((-1),true))
def sh_judge_run (a0:Sl) (a1:aH) (a2:Bool) (a3:Bool) (K:(Int × Bool)→Hp→Prop):Hp→Prop:=cl Tryz.prog wM [(sv a0),(.agg (aH.C a1).toArray)] aK fun r18=>br (!r18) ( K ((-1),false)) ( cl Tryz.prog nE [(.agg (aH.C a1).toArray)] dP fun r23=>nw dn (kv.C (⟨a0,a1,r23⟩:kv)) fun b25=>cl Tryz.prog oH [(sv a0)] cJ fun r27=>Lp (wR a0 a2 a3 K b25 r27) 0)
set_option maxRecDepth 20000 in
theorem sim_judge_run (a0:Sl) (a1:aH) (a2:Bool) (a3:Bool) {K:(Int × Bool)→Hp→Prop} {h:Hp} (H:sh_judge_run a0 a1 a2 a3 K h):Ct Tryz.prog ub #[(sv a0),(.agg (aH.C a1).toArray),(.bool a2),(.bool a3)] h fun v h'=>∃ r,v = bW r∧K r h':=aD [(sv a0),(.agg (aH.C a1).toArray),(.bool a2),(.bool a3)] Tryz.func82 rfl rfl rfl fun _=>ah<|ac<|ak (cC (l:=(aH.C a1)) rfl rfl rfl fun b5=>aa (ag rfl) rfl<|aa (ag rfl) rfl<|ae<|ah<|ah<|ac<|aa (ad rfl) rfl<|bw (bP (k:=0) pw rfl rfl rfl rfl) rfl<|ak (aB H en_19 rfl rfl fun r18 _ H1=>aa (cD rfl) rfl<|ae<|aC rfl H1 (fun k2 H3=>ah<|ac<|aa (ag rfl) rfl<|aa (ag rfl) rfl<|ae<|ao<|aw (ce rfl (aE rfl) (aE rfl)) ⟨((-1),false),rfl,H3⟩) (fun k2 H3=>av<|ah<|bC (n:=7) [bx b5 35 (aH.C a1)] cy rfl (.cons_cons _ .slnil)<|ai (i:=0) (fun _ _ _ _=>id) rfl (by kernel_rfl) rfl (ve (ad rfl))<|ai (i:=1) (fun _ _ _ _=>id) rfl (by kernel_rfl) rfl (ef (k:=0) pw rfl rfl rfl rfl)<|ai (i:=2) (fun _ _ _ _=>id) rfl (by kernel_rfl) rfl (ef (k:=0) pw rfl rfl rfl rfl)<|bh (i:=3) (by kernel_rfl) (aI rfl rfl (aB H3 en_60 rfl rfl fun r23 _ H4=>⟨(.cons_cons _ .slnil),ai (i:=4) (fun _ _ _ _=>id) rfl (by kernel_rfl) rfl (ve (bo rfl (build_168_0_1_2 a0 a1 r23)))<|bh (i:=5) (by kernel_rfl) (aI rfl rfl (hH rfl rfl rfl H4 fun b25 _ H5=>⟨(.cons_cons _ .slnil),ai (i:=6) (fun _ _ _ _=>id) rfl (by kernel_rfl) rfl (ve (ag rfl))<|bf (by kernel_rfl)<|ah<|ah<|ac<|aa (ad rfl) rfl<|ak (aB H5 en_26 rfl rfl fun r27 _ H6=>aa (dB rfl Tryz.underlying41 rfl) rfl<|aa (ad rfl) rfl<|ae<|aF<|bO (step:=wR a0 a2 a3 K b25 r27) (fun s7=>[(0,(sv a0)),(2,(.bool a2)),(3,(.bool a3)),(10,(.pointer (some ⟨b25,0,none⟩))),(27,(sv r27)),(28,(.int .i64 (r27.len:Int))),(29,(.int .i64 s7))]) (fun s7=>[]) H6 (.cons rfl (.cons rfl (.cons rfl (.cons rfl (.cons rfl (.cons rfl (.cons rfl (.nil _)))))))) (.cons _ .slnil) (fun Rec8 s7 _ H9=>ah<|ac<|aa (cx rfl rfl) rfl<|ae<|ah<|aC rfl H9 (fun k10 H11=>av<|ah<|aF<|ah<|ac<|cw H11 fun q31 e12 h13 H14=>aa (bD iu (aW rfl (bn e12)) rfl h13) rfl<|ak (bg H14 bj rfl (fun _=>rfl) rfl fun x32 H15=>aa (ag rfl) rfl<|ae<|ah<|ac<|aa (ad rfl) rfl<|aa (ad rfl) rfl<|cw H15 fun q35 e16 h17 H18=>aa (bD sw (aW rfl (bn e16)) rfl h17) rfl<|ak (gI H18 ag_51 rfl (fun _=>rfl) rfl fun x36 H19=>ak (aY (l:=(aM.C (⟨0,0,(⟨0,0,0,0,0⟩:ap),0,0,0,(⟨0,0⟩:al),(⟨0,0,0,0⟩:au)⟩:aM))) zero_51 rfl rfl fun b13=>ak (aZ (k:=0) (vs:=(aM.C x36)) inf_51 rfl rfl rfl rfl rfl rfl rfl<|ae<|ah<|ah<|ac<|bw (bP (k:=0) ag_51 rfl rfl rfl rfl) rfl<|ak (cM (vs:=[(.agg (aM.C x36).toArray)]) (bG (ct_judge_user x36 _)) en_120 rfl rfl<|ae<|aC rfl H19 (fun k20 H21=>eB (rQ b25 Rec8 s7 x36) (fun s22=>[(0,(sv a0)),(2,(.bool a2)),(3,(.bool a3)),(10,(.pointer (some ⟨b25,0,none⟩))),(13,(.pointer (some ⟨b13,0,none⟩))),(27,(sv r27)),(28,(.int .i64 (r27.len:Int))),(29,(.int .i64 s7))]) (fun s22=>[bx b13 51 (aM.C x36)]) ( eB (rP K b25 Rec8 s7 x32 x36) (fun s29=>[(0,(sv a0)),(2,(.bool a2)),(3,(.bool a3)),(10,(.pointer (some ⟨b25,0,none⟩))),(12,(.int .i64 x32)),(13,(.pointer (some ⟨b13,0,none⟩))),(27,(sv r27)),(28,(.int .i64 (r27.len:Int))),(29,(.int .i64 s7)),(45,(.bool s29))]) (fun s29=>[bx b13 51 (aM.C x36)]) ( ac<|aa (ad rfl) rfl<|aa (ad rfl) rfl<|aj rfl rfl rfl (aA _) (fun g33=>wv (ad rfl)) rfl<|aj rfl rfl rfl (aA _) (fun g34=>cv (bP (k:=0) ag_51 rfl rfl rfl rfl)) rfl<|cc H21 (fun k36 H37=>aL rfl rfl rfl (congrArg Value.bool k36) (aB H37 en_121 (ba (aJ rfl k36) (ba (aJ rfl k36) bY)) rfl fun r43 _ H38=>aL rfl rfl rfl (congrArg Value.bool k36) (aQ (wv (cD rfl)) rfl<|aa (bd rfl k36 rfl) rfl<|ae<|cF (!r43) H38 (.cons rfl (.cons rfl (.cons rfl (.cons rfl (.cons rfl (.cons rfl (.cons rfl (.cons rfl (.cons rfl (.cons rfl (.nil _))))))))))) (.cons_cons _ .slnil)))) (fun k36 H37=>am rfl rfl rfl (bc k36) rfl<|am rfl rfl rfl (bc k36) rfl<|aa (ay rfl k36 rfl) rfl<|ae<|cF false H37 (.cons rfl (.cons rfl (.cons rfl (.cons rfl (.cons rfl (.cons rfl (.cons rfl (.cons rfl (.cons rfl (.cons rfl (.nil _))))))))))) (.cons_cons _ .slnil))) (fun s29 _ H30=>aC rfl H30 (fun k31 H32=>ah<|ac<|aa (ad rfl) rfl<|aa (ag rfl) rfl<|aa (ag rfl) rfl<|ae<|ao<|aw (ce rfl (aE rfl) (aE rfl)) ⟨(x32,false),rfl,H32⟩) (fun k31 H32=>av<|cF () H32 (.cons rfl (.cons rfl (.cons rfl (.cons rfl (.cons rfl (.cons rfl (.cons rfl (.cons rfl (.nil _))))))))) (.cons_cons _ .slnil)))) (fun s22 _ H23=>ah<|ah<|ac<|aa (ad rfl) rfl<|bw (bP (k:=0) ag_51 rfl rfl rfl rfl) rfl<|ak (aB H23 en_122 rfl rfl fun r49 _ H24=>ae<|aC rfl H24 (fun k25 H26=>bC (n:=10) [bx b13 51 (aM.C x36)] cy rfl (.cons_cons _ .slnil)<|ai (i:=0) (fun _ _ _ _=>id) rfl (by kernel_rfl) rfl (ve (ad rfl))<|ai (i:=1) (fun _ _ _ _=>id) rfl (by kernel_rfl) rfl (ve (aV rfl))<|ai (i:=2) (fun _ _ _ _=>id) rfl (by kernel_rfl) rfl (ve (an vv rfl))<|ai (i:=4) (fun _ _ _ _=>id) rfl (by kernel_rfl) rfl (ve (an gb rfl))<|ai (i:=5) (fun _ _ _ _=>id) rfl (by kernel_rfl) rfl (ve (an ly rfl))<|ai (i:=6) (fun _ _ _ _=>id) rfl (by kernel_rfl) rfl (dm (k:=0) bj rfl rfl rfl)<|ai (i:=7) (fun _ _ _ _=>id) rfl (by kernel_rfl) rfl (ve (an mM rfl))<|ai (i:=8) (fun _ _ _ _=>id) rfl (by kernel_rfl) rfl (ef (k:=0) fw rfl rfl rfl rfl)<|bR (i:=3) (fun _ _ _ _=>id) H26 rfl (by kernel_rfl) vh rfl (fun _=>rfl) rfl fun x53 H27=>bh (i:=9) (by kernel_rfl) (aI rfl rfl (aB H27 en_99 rfl rfl fun r59 _ H28=>⟨(.cons_cons _ .slnil),bf (by kernel_rfl)<|bA<|ac<|aa (bI rfl rfl) rfl<|aa (ad rfl) rfl<|ae<|cT (IntKind.i64.wrap (s7 + 1)) H28 (.cons rfl (.cons rfl (.cons rfl (.cons rfl (.cons rfl (.cons rfl (.cons rfl (.nil _)))))))) (.cons _ .slnil)⟩))) (fun k25 H26=>av<|bA<|ac<|aa (bI rfl rfl) rfl<|aa (ad rfl) rfl<|ae<|cT (IntKind.i64.wrap (s7 + 1)) H26 (.cons rfl (.cons rfl (.cons rfl (.cons rfl (.cons rfl (.cons rfl (.cons rfl (.nil _)))))))) (.cons _ .slnil))))) (fun k20 H21=>av<|ah<|bC (n:=15) [bx b13 51 (aM.C x36)] cy rfl (.cons_cons _ .slnil)<|ai (i:=0) (fun _ _ _ _=>id) rfl (by kernel_rfl) rfl (ve (ad rfl))<|ai (i:=1) (fun _ _ _ _=>id) rfl (by kernel_rfl) rfl (ve (aV rfl))<|ai (i:=2) (fun _ _ _ _=>id) rfl (by kernel_rfl) rfl (ve (an vv rfl))<|ai (i:=4) (fun _ _ _ _=>id) rfl (by kernel_rfl) rfl (ve (an oL rfl))<|ai (i:=5) (fun _ _ _ _=>id) rfl (by kernel_rfl) rfl (dm (k:=0) bj rfl rfl rfl)<|ai (i:=6) (fun _ _ _ _=>id) rfl (by kernel_rfl) rfl (ve (an mM rfl))<|ai (i:=7) (fun _ _ _ _=>id) rfl (by kernel_rfl) rfl (ef (k:=0) fw rfl rfl rfl rfl)<|bR (i:=3) (fun _ _ _ _=>id) H21 rfl (by kernel_rfl) vh rfl (fun _=>rfl) rfl fun x64 H39=>jg (i:=8) (j:=12) (by kernel_rfl) (aI rfl rfl (aB H39 en_73 rfl rfl fun r69 _ H41=>⟨(.cons_cons _ .slnil),ai (i:=9) (fun _ _ _ _=>id) rfl (by kernel_rfl) rfl (ve (ad rfl))<|ai (i:=10) (fun _ _ _ _=>id) rfl (by kernel_rfl) rfl (ve (aq rfl rfl))<|ai (i:=11) (fun _ _ _ _=>id) rfl (by kernel_rfl) rfl (ve (aq rfl rfl))<|bh (i:=12) (by kernel_rfl) (aI rfl rfl (aY (l:=(al.C (⟨0,0⟩:al))) dh rfl rfl fun b14=>⟨(.cons _ (.cons_cons _ .slnil)),bh (i:=13) (by kernel_rfl) (aI rfl rfl (aZ (k:=0) (vs:=(al.C r69.1)) bX rfl rfl rfl rfl rfl rfl rfl<|⟨(.cons _ (.cons_cons _ .slnil)),ai (i:=14) (fun _ _ _ _=>id) rfl (by kernel_rfl) rfl (ve (ag rfl))<|bf (by kernel_rfl)<|ah<|ac<|aa (ad rfl) rfl<|aa (ad rfl) rfl<|aj rfl rfl rfl (aA _) (fun g42=>wv (ad rfl)) rfl<|aj rfl rfl rfl (aA _) (fun g43=>wv (cD (aJ rfl g43))) rfl<|aj rfl rfl rfl (aA _) (fun g44=>wv (ad (aJ rfl g44))) rfl<|aj rfl rfl rfl (dZ _ _) (fun g45=>cv (bP (k:=0) cL rfl rfl rfl rfl)) rfl<|aj rfl rfl rfl (dZ _ _) (fun g46=>wv (an ke rfl)) rfl<|aj rfl rfl rfl (dZ _ _) (fun g47=>cv (bP (k:=1) cL (aJ rfl g47) rfl rfl rfl)) rfl<|aj rfl rfl rfl (dZ _ _) (fun g48=>wv (v_neA eqg_47 (eqr_47 9998 _ _) (aJ rfl g48) (aJ rfl g48))) rfl<|aj rfl rfl rfl (aA _) (fun g49=>wv (dr (aJ rfl g49) (aW rfl (wU g49)))) rfl<|aa (bU rfl rfl) rfl<|ae<|aC rfl H41 (fun k50 H51=>ah<|ac<|aa (ad rfl) rfl<|aa (ag rfl) rfl<|aa (ag rfl) rfl<|ae<|ao<|aw (ce rfl (aE rfl) (aE rfl)) ⟨(x32,false),rfl,H51⟩) (fun k50 H51=>av<|ac<|aa (bI rfl rfl) rfl<|aa (ad rfl) rfl<|ae<|cT (IntKind.i64.wrap (s7 + 1)) H51 (.cons rfl (.cons rfl (.cons rfl (.cons rfl (.cons rfl (.cons rfl (.cons rfl (.nil _)))))))) (.cons _ (.cons _ .slnil)))⟩))⟩))⟩)) (aI rfl rfl (aY (l:=(al.C (⟨0,0⟩:al))) dh rfl rfl fun b14=>⟨(.cons _ (.cons_cons _ .slnil)),bh (i:=8) (by kernel_rfl) (aI rfl rfl (aB H39 en_73 rfl rfl fun r69 _ H41=>⟨(.cons _ (.cons_cons _ .slnil)),ai (i:=9) (fun _ _ _ _=>id) rfl (by kernel_rfl) rfl (ve (ad rfl))<|ai (i:=10) (fun _ _ _ _=>id) rfl (by kernel_rfl) rfl (ve (aq rfl rfl))<|ai (i:=11) (fun _ _ _ _=>id) rfl (by kernel_rfl) rfl (ve (aq rfl rfl))<|bh (i:=13) (by kernel_rfl) (aI rfl rfl (aZ (k:=0) (vs:=(al.C r69.1)) bX rfl rfl rfl rfl rfl rfl rfl<|⟨(.cons _ (.cons_cons _ .slnil)),ai (i:=14) (fun _ _ _ _=>id) rfl (by kernel_rfl) rfl (ve (ag rfl))<|bf (by kernel_rfl)<|ah<|ac<|aa (ad rfl) rfl<|aa (ad rfl) rfl<|aj rfl rfl rfl (aA _) (fun g42=>wv (ad rfl)) rfl<|aj rfl rfl rfl (aA _) (fun g43=>wv (cD (aJ rfl g43))) rfl<|aj rfl rfl rfl (aA _) (fun g44=>wv (ad (aJ rfl g44))) rfl<|aj rfl rfl rfl (dZ _ _) (fun g45=>cv (bP (k:=0) cL rfl rfl rfl rfl)) rfl<|aj rfl rfl rfl (dZ _ _) (fun g46=>wv (an ke rfl)) rfl<|aj rfl rfl rfl (dZ _ _) (fun g47=>cv (bP (k:=1) cL (aJ rfl g47) rfl rfl rfl)) rfl<|aj rfl rfl rfl (dZ _ _) (fun g48=>wv (v_neA eqg_47 (eqr_47 9998 _ _) (aJ rfl g48) (aJ rfl g48))) rfl<|aj rfl rfl rfl (aA _) (fun g49=>wv (dr (aJ rfl g49) (aW rfl (wU g49)))) rfl<|aa (bU rfl rfl) rfl<|ae<|aC rfl H41 (fun k50 H51=>ah<|ac<|aa (ad rfl) rfl<|aa (ag rfl) rfl<|aa (ag rfl) rfl<|ae<|ao<|aw (ce rfl (aE rfl) (aE rfl)) ⟨(x32,false),rfl,H51⟩) (fun k50 H51=>av<|ac<|aa (bI rfl rfl) rfl<|aa (ad rfl) rfl<|ae<|cT (IntKind.i64.wrap (s7 + 1)) H51 (.cons rfl (.cons rfl (.cons rfl (.cons rfl (.cons rfl (.cons rfl (.cons rfl (.nil _)))))))) (.cons _ (.cons _ .slnil)))⟩))⟩))⟩))))))))) (fun k10 H11=>bA<|ah<|ac<|aa (ag rfl) rfl<|aa (ag rfl) rfl<|ae<|ao<|aw (ce rfl (aE rfl) (aE rfl)) ⟨((-1),true),rfl,H11⟩)))⟩))⟩)))))
def sh_judge_Linear (a0:Sl) (a1:aH) (K:(Int × Bool)→Hp→Prop):Hp→Prop:=cl Tryz.prog ub [(sv a0),(.agg (aH.C a1).toArray),(.bool true),(.bool false)] bW fun r8=>K (r8.1,r8.2)
set_option maxRecDepth 20000 in
theorem sim_judge_Linear (a0:Sl) (a1:aH) {K:(Int × Bool)→Hp→Prop} {h:Hp} (H:sh_judge_Linear a0 a1 K h):Ct Tryz.prog oF #[(sv a0),(.agg (aH.C a1).toArray)] h fun v h'=>∃ r,v = bW r∧K r h':=aD [(sv a0),(.agg (aH.C a1).toArray)] Tryz.func44 rfl rfl rfl fun _=>ah<|ac<|ak (cC (l:=(aH.C a1)) rfl rfl rfl fun b3=>aa (ag rfl) rfl<|aa (ag rfl) rfl<|ae<|ah<|ac<|aa (ad rfl) rfl<|bw (bP (k:=0) pw rfl rfl rfl rfl) rfl<|ak (aB H en_82 rfl rfl fun r8 _ H1=>aa (aq rfl rfl) rfl<|aa (aq rfl rfl) rfl<|aa (ag rfl) rfl<|aa (ag rfl) rfl<|ae<|ao<|aw (ce rfl (aE rfl) (aE rfl)) ⟨(r8.1,r8.2),rfl,H1⟩))
def sh_judge_Access (a0:Sl) (a1:aH) (K:(Int × Bool)→Hp→Prop):Hp→Prop:=cl Tryz.prog ub [(sv a0),(.agg (aH.C a1).toArray),(.bool false),(.bool true)] bW fun r8=>K (r8.1,r8.2)
set_option maxRecDepth 20000 in
theorem sim_judge_Access (a0:Sl) (a1:aH) {K:(Int × Bool)→Hp→Prop} {h:Hp} (H:sh_judge_Access a0 a1 K h):Ct Tryz.prog oG #[(sv a0),(.agg (aH.C a1).toArray)] h fun v h'=>∃ r,v = bW r∧K r h':=aD [(sv a0),(.agg (aH.C a1).toArray)] Tryz.func49 rfl rfl rfl fun _=>ah<|ac<|ak (cC (l:=(aH.C a1)) rfl rfl rfl fun b3=>aa (ag rfl) rfl<|aa (ag rfl) rfl<|ae<|ah<|ac<|aa (ad rfl) rfl<|bw (bP (k:=0) pw rfl rfl rfl rfl) rfl<|ak (aB H en_82 rfl rfl fun r8 _ H1=>aa (aq rfl rfl) rfl<|aa (aq rfl rfl) rfl<|aa (ag rfl) rfl<|aa (ag rfl) rfl<|ae<|ao<|aw (ce rfl (aE rfl) (aE rfl)) ⟨(r8.1,r8.2),rfl,H1⟩))
def sh_judge_Right (a0:Sl) (a1:aH) (K:Bool→Hp→Prop):Hp→Prop:=cl Tryz.prog oF [(sv a0),(.agg (aH.C a1).toArray)] bW fun r12=>cl Tryz.prog oG [(sv a0),(.agg (aH.C a1).toArray)] bW fun r18=>K (r12.2 && r18.2)
set_option maxRecDepth 20000 in
theorem sim_judge_Right (a0:Sl) (a1:aH) {K:Bool→Hp→Prop} {h:Hp} (H:sh_judge_Right a0 a1 K h):Ct Tryz.prog uA #[(sv a0),(.agg (aH.C a1).toArray)] h fun v h'=>∃ r,v = aK r∧K r h':=aD [(sv a0),(.agg (aH.C a1).toArray)] Tryz.func41 rfl rfl rfl fun _=>ah<|ac<|ak (cC (l:=(aH.C a1)) rfl rfl rfl fun b3=>aa (ag rfl) rfl<|ae<|ah<|ac<|aa (ad rfl) rfl<|bw (bP (k:=0) pw rfl rfl rfl rfl) rfl<|ak (aB H en_44 rfl rfl fun r12 _ H1=>aa (ad rfl) rfl<|aa (aq rfl rfl) rfl<|aa (aq rfl rfl) rfl<|aa (ag rfl) rfl<|aa (ag rfl) rfl<|ae<|ah<|ac<|aa (ad rfl) rfl<|bw (bP (k:=0) pw rfl rfl rfl rfl) rfl<|ak (aB H1 en_49 rfl rfl fun r18 _ H2=>aa (ad rfl) rfl<|aa (aq rfl rfl) rfl<|aa (aq rfl rfl) rfl<|aa (ag rfl) rfl<|aa (ag rfl) rfl<|ae<|ah<|ac<|aa (ad rfl) rfl<|aa (ad rfl) rfl<|aj rfl rfl rfl (aA _) (fun g3=>wv (ad rfl)) rfl<|aa (bU rfl rfl) rfl<|aa (ag rfl) rfl<|ae<|ao<|aw (az rfl (aE rfl)) ⟨(r12.2 && r18.2),rfl,H2⟩)))
end Go.Proofs.YtniiiakkdoiaiaaGreatDoor
namespace Go.Proofs.YtniiiakkdoiaiaaGreatDoor
open Go Mb
abbrev vG (s:Sl) (xs:List Pte):As:=vec t_api_Pte 3 ar.C s xs
theorem pte_one (p:Pte):dM p.C = true:=rfl
namespace Judge
def ev (es:List co) (i:Int):co:=es.getD i.toNat Hist.ev00
def takes (e:co):Bool:=(aN e.fCall).1 == 7 || (aN e.fCall).1 == 8 || (aN e.fCall).1 == 4 || (aN e.fCall).1 == 5
def othersFrom (k:PK) (es:List co) (env pg:Int):List Int→List Pte
  | []=>[]
  | i::l=>if takes (ev es i) = true then (PK.pte (PK.do_ k (ev es i).fEnv (ev es i).fCall).2 env pg).1::othersFrom k es env pg l else othersFrom k es env pg l
def others (k:PK) (es:List co) (at_ env pg:Int):List Pte:=(PK.pte k env pg).1::othersFrom k es env pg (Hist.over es at_)
def faults (e:co) (l:List Pte):Bool:=l.any fun p=>!(du p.fRights (IntKind.i64.wrap e.fCall.e0))
def goes (e:co) (l:List Pte):Bool:=l.any fun p=>(p.fFrame == e.fLine.fFrame) && (bu e.fLine.fRights p.fRights)
def own (e:co):Bool:=((e.fLine.fEnv == e.fEnv) && (e.fLine.fPage == (IntKind.i64.wrap e.fCall.e1))) && (du e.fLine.fRights (IntKind.i64.wrap e.fCall.e0))
def access (k:PK) (es:List co) (s:kQ) (e:co):Bool :=
  if Word.check e.fCall s.fEnvs ≠ 0 then (al.eqb e.fAnswer ⟨Word.check e.fCall s.fEnvs,0⟩) && (au.eqb e.fLine mv)
  else if e.fAnswer.fErr = 7 then (faults e (others k es e.fEffect e.fEnv (IntKind.i64.wrap e.fCall.e1)) && (e.fAnswer.fVal == 0)) && (au.eqb e.fLine mv)
  else ((goes e (others k es e.fEffect e.fEnv (IntKind.i64.wrap e.fCall.e1)) && own e) && (PK.touch k e.fLine.fFrame e.fCall).1.2) && (al.eqb (PK.touch k e.fLine.fFrame e.fCall).1.1 e.fAnswer)
def well (s:kQ) (e:co):Bool:=(e.fAnswer.fErr == 0) && (Word.check e.fCall s.fEnvs == 0) && (e.fLine.fRights != 0)
def runFrom (es:List co) (s:kQ) (lin acc:Bool):PK→List Int→Int × Bool
  | _,[]=>(-1,true)
  | k,i::l =>
    if pZ (ev es i) = true then (if acc = true∧access k es s (ev es i) = false then (i,false) else runFrom es s lin acc (if well s (ev es i) = true then (PK.touch k (ev es i).fLine.fFrame (ev es i).fCall).2 else k) l)
    else if lin = true∧((PK.do_ k (ev es i).fEnv (ev es i).fCall).1.2 = false∨al.eqb (PK.do_ k (ev es i).fEnv (ev es i).fCall).1.1 (ev es i).fAnswer = false) then (i,false)
    else runFrom es s lin acc (PK.do_ k (ev es i).fEnv (ev es i).fCall).2 l
def run (es:List co) (s:kQ) (lin acc:Bool):Int × Bool:=if Hist.may es s = true then runFrom es s lin acc (PK.new s) (Hist.order es) else (-1,false)
def linear (es:List co) (s:kQ):Int × Bool:=run es s true false
def accesses (es:List co) (s:kQ):Int × Bool:=run es s false true
def right (es:List co) (s:kQ):Bool:=(linear es s).2 && (accesses es s).2
theorem ev_nat {es:List co} {n:Nat} (h:n < es.length):ev es n = es[n]:=by simp [ev,h]
theorem othersFrom_app (k:PK) (es:List co) (env pg:Int) (i:Int):∀ l,othersFrom k es env pg (l++[i]) = othersFrom k es env pg l++(if takes (ev es i) = true then [(PK.pte (PK.do_ k (ev es i).fEnv (ev es i).fCall).2 env pg).1] else [])
  | []=>by simp only [List.nil_append,othersFrom]
  | j::l=>by
    simp only [List.cons_append,othersFrom,othersFrom_app k es env pg i l]
    split <;> simp
theorem othersFrom_len (k:PK) (es:List co) (env pg:Int):∀ l,(othersFrom k es env pg l).length ≤ l.length
  | []=>Nat.le_refl _
  | i::l=>by unfold othersFrom; have:=othersFrom_len k es env pg l; split <;> simp <;> omega
end Judge
abbrev jc (s:Sl) (z:kQ) (pk:Ptr):List Value:=[sv s,.int .i64 z.fCores,.int .i64 z.fEnvs,.int .i64 z.fFrames,pv pk]
theorem sp_judge_others (jb:Nat) (s:Sl) (z:kQ) (pk:Ptr) (es:List co) (k:PK) (a env pg:Int) (hb:es.length < 2 ^ 38) :
    Sp Tryz.prog lq [pv (some (jb,0)),.int .i64 a,.int .i64 env,.int .i64 pg] pY [blk jb dn (jc s z pk),vE s es,bE pk k] (fun r=>aP [vG r (Judge.others k es a env pg),blk jb dn (jc s z pk),vE s es,bE pk k]):=by
  intro h s0
  refine wt _ _ _ _ ?_
  unfold ph
  refine cO (bB pk s0 (i:=0) rfl rfl rfl ?_)
  refine bZ (rH pk k env pg) (i:=2) rfl s0 fun r h1 hr s1=>?_
  subst hr
  refine fu (τ:=Pte) [(PK.pte k env pg).1] (val:=fun x=>.agg x.C.toArray) (enc:=ar.C) el_Sapi_Pte ji (fun _=>rfl) s1 rfl rfl (by simp) fun v h2 s2=>?_
  refine bB s s2 (i:=1) rfl rfl rfl ?_
  refine cl_n (sp_hist_Over s es a hb) (i:=2) rfl s2 fun r37 h3 s3=>?_
  have hrl:=(cq (j:=0) s3 rfl).1
  have hol:=Hist.placesFrom_len (fun e=>decide (e.fBegin ≤ a) && (e.fEffect == 0 || decide (e.fEffect > a))) es 0
  have hol':(Hist.over es a).length ≤ es.length:=hol
  refine Lp.intro (fun (y:Sl × Int) h=>∃ n:Nat,y.2 = n∧n ≤ (Hist.over es a).length∧aP [vI r37 (Hist.over es a),vG y.1 ((PK.pte k env pg).1::Judge.othersFrom k es env pg ((Hist.over es a).take n)),blk jb dn (jc s z pk),vE s es,bE pk k] h) (fun (y:Sl × Int) _=>(Hist.over es a).length - y.2.toNat) ⟨0,rfl,Nat.zero_le _,s3⟩ ?_
  rintro ⟨y,i⟩ h ⟨n,rfl,hn,s4⟩
  unfold kB
  refine bk (fun d=>?_) (fun d=>?_)
  · have hlt:n < (Hist.over es a).length:=by rw [hrl] at d; have:=of_decide_eq_true d; simp at this; exact this
    have hw:IntKind.i64.wrap ((n:Int) + 1) = ((n + 1:Nat):Int):=by rw [cf (by omega) (by omega)]; rfl
    have ht:(Hist.over es a).take (n + 1) = (Hist.over es a).take n++[(Hist.over es a)[n]]:=by simp
    have hin:=Hist.places_in (List.getElem_mem hlt)
    have hes:=(cq (j:=3) s4 rfl).1
    obtain ⟨m,hm⟩:=Int.eq_ofNat_of_zero_le hin.1
    have hml:m < es.length:=by omega
    have hev:Judge.ev es (Hist.over es a)[n] = es[m]:=by rw [hm,Judge.ev_nat hml]
    have happ:=Judge.othersFrom_app k es env pg (Hist.over es a)[n] ((Hist.over es a).take n)
    rw [hev] at happ
    have hfl:=Judge.othersFrom_len k es env pg ((Hist.over es a).take n)
    simp at hfl
    refine dE s4 (j:=0) rfl (by omega) (by show (n:Int) < _; omega) fun q hq=>?_
    refine eC (j:=0) (i:=n) (k:=0) (Hist.over es a)[n] (dk _) s4 rfl hq (by simp) (aO hlt) (by simp) ?_
    rw [hm]
    refine bB s s4 (i:=2) rfl rfl rfl ?_
    refine dE s4 (j:=3) rfl (by omega) (by omega) fun q2 hq2=>?_
    refine eC (j:=3) (i:=m) (k:=0) es[m] np s4 rfl hq2 rfl (aO hml) (by simp) ?_
    have j1:∀ b,b = Judge.takes es[m]→dU env pg (jb,0) (fun s' h'=>(∃ n:Nat,s'.2 = n∧n ≤ (Hist.over es a).length∧aP [vI r37 (Hist.over es a),vG s'.1 ((PK.pte k env pg).1::Judge.othersFrom k es env pg ((Hist.over es a).take n)),blk jb dn (jc s z pk),vE s es,bE pk k] h')∧(Hist.over es a).length - s'.2.toNat < (Hist.over es a).length - (n:Int).toNat) (y,(n:Int)) es[m] b h:=by
      intro b hb2
      unfold dU
      rw [hb2,hw]
      refine bk (fun d2=>?_) (fun d2=>?_)
      · refine bB pk s4 (i:=2) rfl rfl rfl ?_
        refine cl_n (ur pk k) (i:=4) rfl s4 fun r66 h5 s5=>?_
        refine bZ (jG r66 k es[m].fEnv es[m].fCall) (i:=0) rfl s5 fun r h6 hr s6=>?_
        refine bZ (rH r66 _ env pg) (i:=0) rfl s6 fun r h7 hr s7=>?_
        subst hr
        refine kr (τ:=Pte) (i:=2) (enc:=ar.C) (val:=fun x=>.agg x.C.toArray) el_Sapi_Pte ji pte_one (fun _=>rfl) (by omega) rfl rfl s7 rfl (by simp; omega) (by simp; omega) fun v h8 s8=>?_
        refine ⟨⟨n + 1,rfl,hlt,?_⟩,by simp; omega⟩
        rw [ht,happ,if_pos d2]
        exact ct (l:=[bE r66 _]) s8
      · refine ⟨⟨n + 1,rfl,hlt,?_⟩,by simp; omega⟩
        rw [ht,happ,if_neg (by rw [d2]; exact Bool.false_ne_true),List.append_nil]
        exact s4
    refine bk (fun c=>j1 _ (by unfold Judge.takes; rw [c]; rfl)) (fun c=>?_)
    refine bk (fun c2=>j1 _ (by unfold Judge.takes; rw [c,c2]; rfl)) (fun c2=>?_)
    refine bk (fun c3=>j1 _ (by unfold Judge.takes; rw [c,c2,c3]; rfl)) (fun c3=>j1 _ (by unfold Judge.takes; rw [c,c2,c3]; rfl))
  · have:n = (Hist.over es a).length:=by rw [hrl] at d; have:=of_decide_eq_false d; simp at this; omega
    subst this
    rw [List.take_length] at s4
    exact ct (l:=[vI r37 (Hist.over es a)]) s4
theorem any_snoc {α:Type} (f:α→Bool) (l:List α) (x:α):(l++[x]).any f = (l.any f || f x):=by simp
theorem sp_judge_access (jb:Nat) (s:Sl) (z:kQ) (pk:Ptr) (es:List co) (k:PK) (e:co) (hb:es.length < 2 ^ 38) :
    Sp Tryz.prog lr [pv (some (jb,0)),.agg e.C.toArray] aK [blk jb dn (jc s z pk),vE s es,bE pk k] (fun r=>pa_ (r = Judge.access k es z e) [blk jb dn (jc s z pk),vE s es,bE pk k]):=by
  intro h s0
  refine wu _ _ ?_
  unfold pj
  refine cO (bB z.fEnvs s0 (i:=0) rfl rfl rfl ?_)
  refine ti (iZ e.fCall z.fEnvs) s0 fun r h1 hr s1=>?_
  subst hr
  refine bk (fun d=>?_) (fun d=>?_)
  · exact bi (by unfold Judge.access; rw [if_pos (by simpa using d)]) s1
  · have d':¬ Word.check e.fCall z.fEnvs ≠ 0:=by simpa using d
    refine cW [0,0,0] (sp_judge_others jb s z pk es k e.fEffect e.fEnv (IntKind.i64.wrap e.fCall.e1) hb) s1 rfl fun r50 h2 s2=>?_
    have s3:=dG s2
    have hrl:=(cq (j:=0) s3 rfl).1
    have hol':(Hist.over es e.fEffect).length ≤ es.length:=Hist.placesFrom_len _ es 0
    have hfl:=Judge.othersFrom_len k es e.fEnv (IntKind.i64.wrap e.fCall.e1) (Hist.over es e.fEffect)
    have hll:(Judge.others k es e.fEffect e.fEnv (IntKind.i64.wrap e.fCall.e1)).length < 2 ^ 39:=by unfold Judge.others; simp; omega
    generalize hL:Judge.others k es e.fEffect e.fEnv (IntKind.i64.wrap e.fCall.e1) = L at *
    refine Lp.intro (fun (y:Bool × Bool × Int) h=>∃ n:Nat,y.2.2 = n∧n ≤ L.length∧y.1 = Judge.faults e (L.take n)∧y.2.1 = Judge.goes e (L.take n)∧aP [vG r50 L,blk jb dn (jc s z pk),vE s es,bE pk k] h) (fun (y:Bool × Bool × Int) _=>L.length - y.2.2.toNat) ⟨0,rfl,Nat.zero_le _,rfl,rfl,s3⟩ ?_
    rintro ⟨f,g,i⟩ h ⟨n,rfl,hn,hf,hg,s4⟩
    simp only at hf hg
    unfold kC
    refine bk (fun d2=>?_) (fun d2=>?_)
    · have hlt:n < L.length:=by rw [hrl] at d2; have:=of_decide_eq_true d2; simp at this; exact this
      have hw:IntKind.i64.wrap ((n:Int) + 1) = ((n + 1:Nat):Int):=by rw [cf (by omega) (by omega)]; rfl
      have ht:L.take (n + 1) = L.take n++[L[n]]:=by simp
      refine dE s4 (j:=0) rfl (by show (0:Int) ≤ n; omega) (by show (n:Int) < _; omega) fun q hq=>?_
      refine eC (j:=0) (i:=n) (k:=0) L[n] ji s4 rfl hq rfl (aO hlt) (by simp) ?_
      rw [hw]
      refine ⟨⟨n + 1,rfl,hlt,?_,?_,s4⟩,by simp; omega⟩
      · unfold Judge.faults; rw [ht,any_snoc]; show (f || _) = _; rw [hf]; rfl
      · unfold Judge.goes; rw [ht,any_snoc]; show (g || _) = _; rw [hg]; rfl
    · have:n = L.length:=by rw [hrl] at d2; have:=of_decide_eq_false d2; simp at this; omega
      subst this
      rw [List.take_length] at hf hg
      have s5:=ct (l:=[vG r50 L]) s4
      refine bk (fun d3=>?_) (fun d3=>?_)
      · refine bi ?_ s5
        unfold Judge.access
        rw [if_neg d',if_pos (by simpa using d3),hL,← hf]
      · refine bB pk s4 (i:=1) rfl rfl rfl ?_
        refine cl_n (ur pk k) (i:=2) rfl s5 fun r104 h6 s6=>?_
        refine bZ (nY r104 k e.fLine.fFrame e.fCall) (i:=0) rfl s6 fun r h7 hr s7=>?_
        subst hr
        refine bi ?_ (ct (l:=[bE r104 _]) s7)
        unfold Judge.access
        rw [if_neg d',if_neg (by simpa using d3),hL,← hg]
        rfl
theorem sp_judge_well (jb:Nat) (s:Sl) (z:kQ) (pk:Ptr) (e:co) :
    Sp Tryz.prog nh [pv (some (jb,0)),.agg e.C.toArray] aK [blk jb dn (jc s z pk)] (fun r=>pa_ (r = Judge.well z e) [blk jb dn (jc s z pk)]):=by
  intro h s0
  refine sim_judge_judge_well _ _ ?_
  unfold rx
  refine bk (fun d=>?_) (fun d=>?_)
  · refine cO (bB z.fEnvs s0 (i:=0) rfl rfl rfl ?_)
    refine ti (iZ e.fCall z.fEnvs) s0 fun r h1 hr s1=>?_
    subst hr
    refine bk (fun d2=>?_) (fun d2=>?_)
    · exact bi (by unfold Judge.well; rw [d,d2]; rfl) s1
    · exact bi (by unfold Judge.well; rw [d,d2]; rfl) s1
  · exact bi (by unfold Judge.well; rw [d]; rfl) s0
abbrev OrdOk (s:Sl) (es:List co):Prop:=Sp Tryz.prog oH [sv s] cJ [vE s es] (fun r=>aP [vI r (Hist.order es),vE s es])
theorem order_in {es:List co} {x:Int} (h:x ∈ Hist.order es):0 ≤ x∧x < es.length:=Hist.places_in ((Hist.isort_perm _ _).subset h)
theorem order_len (es:List co):(Hist.order es).length ≤ es.length:=by
  have h1:=(Hist.isort_perm (Hist.eff es) (Hist.effs es)).length_eq
  have h2:=Hist.placesFrom_len (fun e=>decide (e.fEffect > 0)) es 0
  unfold Hist.order; rw [h1]; exact h2
theorem sp_judge_run (s:Sl) (es:List co) (z:kQ) (lin acc:Bool) (hz:PK.sized z = true) (hb:es.length < 2 ^ 38) (ho:Hist.Apart es→OrdOk s es) :
    Sp Tryz.prog ub [sv s,.agg z.C.toArray,.bool lin,.bool acc] bW [vE s es] (fun r=>pa_ (r = Judge.run es z lin acc) [vE s es]):=by
  intro h s0
  refine sim_judge_run _ _ _ _ ?_
  unfold sh_judge_run
  refine bZ (sp_hist_May s es z hb) (i:=0) rfl s0 fun r h1 hr s1=>?_
  subst hr
  refine bk (fun d=>?_) (fun d=>?_)
  · exact bi (by unfold Judge.run; rw [if_neg (by simpa using d)]) s1
  · have d':Hist.may es z = true:=by simpa using d
    have er:Judge.run es z lin acc = Judge.runFrom es z lin acc (PK.new z) (Hist.order es):=if_pos d'
    rw [er]
    refine my (rI z hz) s1 fun pk h2 s2=>?_
    refine oS s2 fun b25 h3 s3=>?_
    refine cl_n (ho (Hist.may_apart d')) (i:=2) rfl s3 fun r27 h4 s4=>?_
    have hol:=order_len es
    have hrl:=(cq (j:=0) s4 rfl).1
    refine Lp.intro (fun (i:Int) h=>∃ (n:Nat) (k:PK),i = n∧n ≤ (Hist.order es).length∧Judge.runFrom es z lin acc k ((Hist.order es).drop n) = Judge.runFrom es z lin acc (PK.new z) (Hist.order es)∧aP [vI r27 (Hist.order es),blk b25 dn (jc s z pk),bE pk k,vE s es] h) (fun (i:Int) _=>(Hist.order es).length - i.toNat) ⟨0,_,rfl,Nat.zero_le _,rfl,s4⟩ ?_
    rintro i h ⟨n,k,rfl,hn,he,s5⟩
    have fin:∀ h,aP [vI r27 (Hist.order es),blk b25 dn (jc s z pk),bE pk k,vE s es] h→aP [vE s es] h:=fun h s=>ct (l:=[_,_,_]) s
    unfold wR
    refine bk (fun d2=>?_) (fun d2=>?_)
    · have hlt:n < (Hist.order es).length:=by rw [hrl] at d2; simpa using d2
      have hw:IntKind.i64.wrap ((n:Int) + 1) = ((n + 1:Nat):Int):=by rw [cf (by omega) (by omega)]; rfl
      have hin:=order_in (List.getElem_mem hlt)
      have hes:=(cq (j:=3) s5 rfl).1
      obtain ⟨m,hm⟩:=Int.eq_ofNat_of_zero_le hin.1
      have hml:m < es.length:=by omega
      have hev:Judge.ev es (Hist.order es)[n] = es[m]:=by rw [hm,Judge.ev_nat hml]
      rw [List.drop_eq_getElem_cons hlt,Judge.runFrom,hev] at he
      refine dE s5 (j:=0) rfl (by omega) (by omega) fun q hq=>?_
      refine eC (j:=0) (i:=n) (k:=0) (Hist.order es)[n] (dk _) s5 rfl hq (by simp) (aO hlt) (by simp) ?_
      rw [hm]
      refine dE s5 (j:=3) rfl (by omega) (by omega) fun q2 hq2=>?_
      refine eC (j:=3) (i:=m) (k:=0) es[m] np s5 rfl hq2 rfl (aO hml) (by simp) ?_
      have hmi:((m:Int),false) = ((Hist.order es)[n],false):=by rw [hm]
      refine bk (fun d3=>?_) (fun d3=>?_)
      · rw [if_pos d3] at he
        have j1:∀ h,(acc = true∧Judge.access k es z es[m] = false) = False→aP [vI r27 (Hist.order es),blk b25 dn (jc s z pk),bE pk k,vE s es] h→rQ b25 (fun s' h'=>(∃ (n:Nat) (k:PK),s' = n∧n ≤ (Hist.order es).length∧Judge.runFrom es z lin acc k ((Hist.order es).drop n) = Judge.runFrom es z lin acc (PK.new z) (Hist.order es)∧aP [vI r27 (Hist.order es),blk b25 dn (jc s z pk),bE pk k,vE s es] h')∧(Hist.order es).length - s'.toNat < (Hist.order es).length - (n:Int).toNat) (n:Int) es[m] () h:=by
          intro h hno s6
          rw [if_neg (by rw [hno]; exact not_false)] at he
          unfold rQ
          refine bZ (sp_judge_well b25 s z pk es[m]) (i:=1) rfl s6 fun r h7 hr s7=>?_
          subst hr
          rw [hw]
          refine bk (fun d4=>?_) (fun d4=>?_)
          · rw [if_pos d4] at he
            refine bB pk s7 (i:=1) rfl rfl rfl ?_
            refine bZ (nY pk k es[m].fLine.fFrame es[m].fCall) (i:=2) rfl s7 fun r h8 hr s8=>?_
            exact ⟨⟨n + 1,_,rfl,hlt,he,s8⟩,by simp; omega⟩
          · rw [if_neg (by rw [d4]; exact Bool.false_ne_true)] at he
            exact ⟨⟨n + 1,_,rfl,hlt,he,s7⟩,by simp; omega⟩
        unfold rP
        refine bk (fun d4=>?_) (fun d4=>?_)
        · refine cW [1,2,1] (sp_judge_access b25 s z pk es k es[m] hb) s5 rfl fun r h6 s6=>?_
          obtain ⟨hr,s7⟩:=bF.1 s6
          subst hr
          have s8:aP [vI r27 (Hist.order es),blk b25 dn (jc s z pk),bE pk k,vE s es] h6:=bp [3,0,1] s7 rfl
          refine bk (fun d5=>?_) (fun d5=>?_)
          · rw [if_pos ⟨d4,by simpa using d5⟩] at he
            exact bi (by rw [← he,hm]) (fin _ s8)
          · exact j1 h6 (by simp; intro _; simpa using d5) s8
        · refine dJ rfl ?_
          exact j1 h (by rw [d4]; simp) s5
      · rw [if_neg (by rw [d3]; exact Bool.false_ne_true)] at he
        refine bB pk s5 (i:=1) rfl rfl rfl ?_
        refine bZ (jG pk k es[m].fEnv es[m].fCall) (i:=2) rfl s5 fun r h6 hr s6=>?_
        subst hr
        refine bk (fun d4=>?_) (fun d4=>?_)
        · have d4':lin = true∧((PK.do_ k es[m].fEnv es[m].fCall).1.2 = false∨al.eqb (PK.do_ k es[m].fEnv es[m].fCall).1.1 es[m].fAnswer = false):=by simpa using d4
          rw [if_pos d4'] at he
          exact bi (by rw [← he,hm]) (ct (l:=[_,_,_]) s6)
        · have d4':¬ (lin = true∧((PK.do_ k es[m].fEnv es[m].fCall).1.2 = false∨al.eqb (PK.do_ k es[m].fEnv es[m].fCall).1.1 es[m].fAnswer = false)):=by simpa using d4
          rw [if_neg d4'] at he
          rw [hw]
          exact ⟨⟨n + 1,_,rfl,hlt,he,s6⟩,by simp; omega⟩
    · have:n = (Hist.order es).length:=by rw [hrl] at d2; simp at d2; omega
      subst this
      rw [List.drop_length] at he
      exact bi he (fin h s5)
section
variable (s:Sl) (es:List co) (z:kQ) (hz:PK.sized z = true) (hb:es.length < 2 ^ 38) (ho:Hist.Apart es→OrdOk s es)
include hz hb ho
theorem sp_judge_Linear:Sp Tryz.prog oF [sv s,.agg z.C.toArray] bW [vE s es] (fun r=>pa_ (r = Judge.linear es z) [vE s es]):=by
  intro h s0
  refine sim_judge_Linear _ _ ?_
  unfold sh_judge_Linear
  exact bZ (sp_judge_run s es z true false hz hb ho) (i:=0) rfl s0 fun r h1 hr s1=>bi hr s1
theorem sp_judge_Access:Sp Tryz.prog oG [sv s,.agg z.C.toArray] bW [vE s es] (fun r=>pa_ (r = Judge.accesses es z) [vE s es]):=by
  intro h s0
  refine sim_judge_Access _ _ ?_
  unfold sh_judge_Access
  exact bZ (sp_judge_run s es z false true hz hb ho) (i:=0) rfl s0 fun r h1 hr s1=>bi hr s1
theorem sp_judge_Right:Sp Tryz.prog uA [sv s,.agg z.C.toArray] aK [vE s es] (fun r=>pa_ (r = Judge.right es z) [vE s es]):=by
  intro h s0
  refine sim_judge_Right _ _ ?_
  unfold sh_judge_Right
  refine bZ (sp_judge_Linear s es z hz hb ho) (i:=0) rfl s0 fun r h1 hr s1=>?_
  subst hr
  exact bZ (sp_judge_Access s es z hz hb ho) (i:=0) rfl s1 fun r h2 hr s2=>bi (by rw [hr]; rfl) s2
end
end Go.Proofs.YtniiiakkdoiaiaaGreatDoor
