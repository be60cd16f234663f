/- A program logic over the model: what is owned, what is written no more, and one lemma for each kind of step. -/
import Derived.Test.YtbogbnkckofpdaaDoorSRow
import Derived.IntWalk
namespace Go.Proofs.YtbogbnkckofpdaaDoor.B
open Go
set_option linter.unusedVariables false
set_option linter.unusedSimpArgs false
section
variable {P : Program} {ops : Array Oper} {Q : Exit → Act → World → Prop} {S : World → Prop} {br : List Nat} {a : Act} {w w' w0 : World} {D : Sto} {ss : List Seg} {o : Oper} {N : Nat} {env : Env} {K : Act → World → Prop}
/-- None of the operations br, behind which S may not hold, has come up. -/
def live (br : List Nat) (listed : Array Bool) : Bool := br.all fun j => !listed.getD j true
/-- Whatever order is picked from here on. -/
def Ord (P : Program) (ops : Array Oper) (Q : Exit → Act → World → Prop) (br : List Nat) (S : World → Prop) : Nat → Array Bool → Act → World → Prop
  | 0, listed, a, w => Region.ready .any ops listed = [] ∧ Q .normal a w
  | n + 1, listed, a, w => (Region.ready .any ops listed = [] → Q .normal a w) ∧
    ∀ i ∈ Region.ready .any ops listed, wpOp P ops Q i (fun a' w' => (live br (listed.setIfInBounds i true) = true → S w') ∧ Ord P ops Q br S n (listed.setIfInBounds i true) a' w') a w
theorem Ord.any : ∀ (n : Nat) (listed : Array Bool) (a : Act) (w : World), Ord P ops Q br S n listed a w → wpAny P .any ops Q n listed a w
  | 0, _, _, _, h => h
  | n + 1, _, _, _, h => ⟨h.1, fun i hi => wpOp_mono (fun a' w' h' => Ord.any n _ a' w' h'.2) (h.2 i hi)⟩
/-- Those that must wait for i. -/
def reach (ops : Array Oper) (i : Nat) : Nat → Nat → Bool
  | 0, _ => false
  | n + 1, j => match ops[j]? with
    | some o => o.after.any fun e => Region.binds .any e && (e.on == i || reach ops i n e.on)
    | none => false
def waits (ops : Array Oper) (br : List Nat) (i : Nat) : Bool := br.all fun j => match ops[j]? with
  | some _ => reach ops i ops.size j
  | none => true
/-- What has come up had all that it waits for. -/
def closedB (ops : Array Oper) (listed : Array Bool) : Bool := (List.range ops.size).all fun k => match ops[k]? with
  | some o => !listed.getD k false || o.after.all fun e => !Region.binds .any e || listed.getD e.on false
  | none => true
def Closed (ops : Array Oper) (listed : Array Bool) : Prop := ∀ k o, ops[k]? = some o → listed.getD k false = true → ∀ e ∈ o.after, Region.binds .any e = true → listed.getD e.on false = true
theorem closed_of {listed : Array Bool} (h : closedB ops listed = true) : Closed ops listed := fun k o hk hl e he hb => by
  have hlt : k < ops.size := (Array.getElem?_eq_some_iff.1 hk).1
  have h1 := List.all_eq_true.1 h k (List.mem_range.2 hlt)
  simp only [hk, hl, Bool.not_true, Bool.false_or] at h1
  have h2 := (Array.all_eq_true_iff_forall_mem.1 h1) e he
  simpa [hb] using h2
theorem unlisted_lt {i : Nat} {listed : Array Bool} (h : listed.getD i true = false) : i < listed.size := by
  rcases Nat.lt_or_ge i listed.size with h' | h'
  · exact h'
  · simp [Array.getElem?_eq_none h'] at h
theorem wait_of {i j : Nat} {oj : Oper} {listed : Array Bool} (hi : listed.getD i true = false) (hoj : ops[j]? = some oj) (hj : j ∈ Region.ready .any ops listed) : ∀ e ∈ oj.after, Region.binds .any e = true → e.on ≠ i := fun e he hb heq => by
  obtain ⟨_, o', ho', hall⟩ := mem_ready.1 hj
  rw [hoj] at ho'
  injection ho' with ho'
  subst ho'
  have h2 := hall e he hb
  have hlt := unlisted_lt hi
  rw [heq] at h2
  simp [hlt] at hi h2
  rw [hi] at h2
  cases h2
theorem ready_listed {j : Nat} {oj : Oper} {listed : Array Bool} (hoj : ops[j]? = some oj) (hj : j ∈ Region.ready .any ops listed) : ∀ e ∈ oj.after, Region.binds .any e = true → listed.getD e.on false = true := fun e he hb => by
  obtain ⟨_, o', ho', hall⟩ := mem_ready.1 hj
  rw [hoj] at ho'
  injection ho' with ho'
  subst ho'
  exact hall e he hb
theorem reach_listed {i : Nat} {listed : Array Bool} (hc : Closed ops listed) (hi : listed.getD i true = false) : ∀ (n k : Nat), reach ops i n k = true → listed.getD k false = true → False
  | 0, k, h, _ => by cases h
  | n + 1, k, h, hl => by
    simp only [reach] at h
    split at h
    · rename_i o ho
      obtain ⟨e, he, hb⟩ := Array.any_eq_true'.1 h
      simp only [Bool.and_eq_true, Bool.or_eq_true, beq_iff_eq] at hb
      have h1 := hc k o ho hl e he hb.1
      rcases hb.2 with h2 | h2
      · have hlt := unlisted_lt hi
        rw [h2] at h1
        simp [hlt] at hi h1
        rw [hi] at h1; cases h1
      · exact reach_listed hc hi n _ h2 h1
    · cases h
theorem Closed.step {j : Nat} {listed : Array Bool} (hc : Closed ops listed) (hj : j ∈ Region.ready .any ops listed) : Closed ops (listed.setIfInBounds j true) := fun k o hk hl e he hb => by
  have h1 : listed.getD e.on false = true := by
    by_cases hkj : j = k
    · subst hkj; exact ready_listed hk hj e he hb
    · rw [getD_set_ne false hkj] at hl
      exact hc k o hk hl e he hb
  by_cases hje : j = e.on
  · subst hje
    rw [Array.getD_eq_getD_getElem?, Array.getElem?_setIfInBounds]
    have hlt : e.on < listed.size := by
      rcases Nat.lt_or_ge e.on listed.size with h' | h'
      · exact h'
      · simp [Array.getElem?_eq_none h'] at h1
    simp [hlt]
  · rw [getD_set_ne false hje]; exact h1
theorem Ord.first {i : Nat} {oi : Oper} {v : Value} (hi : ops[i]? = some oi) (hsel : ∀ (j : Nat) (o : Oper) cs b, ops[j]? = some o → o.op ≠ .select cs b)
    (hQ : ∀ c a w, Q (.panic c) (a.put oi.dst v) w → Q (.panic c) a w) (hwait : waits ops br i = true) (hbi : br.contains i = false) : ∀ (n : Nat) (listed : Array Bool) (a : Act) (w : World),
      (∀ j oj, ops[j]? = some oj → j ≠ i → listed.getD j true = false → (∀ e ∈ oj.after, Region.binds .any e = true → e.on ≠ i) → oi.apart ops oj = true) →
      Closed ops listed → i ∈ Region.ready .any ops listed → live br listed = true → YieldsIf P ops S oi v a → S w →
      Ord P ops Q br S n (listed.setIfInBounds i true) (a.put oi.dst v) w → Ord P ops Q br S (n + 1) listed a w := by
  have keep : ∀ (j : Nat) (listed : Array Bool), j ∉ br → live br listed = true → live br (listed.setIfInBounds j true) = true := fun j listed hj hl => by
    simp only [live, List.all_eq_true] at hl ⊢
    intro k hk
    rw [getD_set_ne true (fun e => hj (by rw [e]; exact hk))]
    exact hl k hk
  have hib : i ∉ br := fun h => by rw [List.contains_iff_mem.2 h] at hbi; cases hbi
  intro n
  induction n with
  | zero =>
    intro listed a w _ hcl hr hl hy hS H
    refine ⟨fun h => absurd hr (by simp [h]), fun j hj => ?_⟩
    by_cases hji : j = i
    · subst hji
      exact hy.wpOp hi hS ⟨fun _ => hS, H⟩
    · exact absurd (ready_mono hj hji) (by simp [H.1])
  | succ n ih =>
    intro listed a w hfree hcl hr hl hy hS H
    refine ⟨fun h => absurd hr (by simp [h]), fun j hj => ?_⟩
    by_cases hji : j = i
    · subst hji
      exact hy.wpOp hi hS ⟨fun _ => hS, H⟩
    have h1 := H.2 j (ready_mono hj hji)
    obtain ⟨hjun, oj, hoj, hall⟩ := mem_ready.1 hj
    have hun := (mem_ready.1 hr).1
    have hnot := wait_of hun hoj hj
    have hjb : j ∉ br := fun hm => by
      have := (List.all_eq_true.1 hwait) j hm
      simp only [hoj] at this
      cases hs : ops.size with
      | zero => rw [hs] at this; cases this
      | succ q =>
        rw [hs] at this
        simp only [reach, hoj] at this
        obtain ⟨e, he, hb⟩ := Array.any_eq_true'.1 this
        simp only [Bool.and_eq_true, Bool.or_eq_true, beq_iff_eq] at hb
        rcases hb.2 with h2 | h2
        · exact hnot e he hb.1 h2
        · exact reach_listed hcl hun q _ h2 (ready_listed hoj hj e he hb.1)
    have h2 := wpOp_putIf hoj (hfree j oj hoj hji hjun hnot) (fun cs b => hsel i oi cs b hi) (fun cs b => hsel j oj cs b hoj) hQ hy h1
    refine wpOp_mono (fun a' w' h3 => ?_) h2
    have hri : i ∈ Region.ready .any ops (listed.setIfInBounds j true) := ready_mono hr (Ne.symm hji)
    have hS' : S w' := h3.2.1 (keep j _ hjb (keep i _ hib hl))
    refine ⟨fun _ => hS', ih _ a' w' (fun k ok hk hki hun hno => ?_) (hcl.step hj) hri (keep j _ hjb hl) h3.1 hS' ?_⟩
    · refine hfree k ok hk hki ?_ hno
      by_cases hjk : j = k
      · subst hjk; exact hjun
      · rw [getD_set_ne true hjk] at hun; exact hun
    · rw [Array.setIfInBounds_comm _ _ hji]
      exact h3.2.2
/-- What needs no world. -/
theorem Ord.firstP {i : Nat} {oi : Oper} {v : Value} (hi : ops[i]? = some oi) (hsel : ∀ (j : Nat) (o : Oper) cs b, ops[j]? = some o → o.op ≠ .select cs b)
    (hQ : ∀ c a w, Q (.panic c) (a.put oi.dst v) w → Q (.panic c) a w) (hbi : br.contains i = false) : ∀ (n : Nat) (listed : Array Bool) (a : Act) (w : World),
      (∀ j oj, ops[j]? = some oj → j ≠ i → listed.getD j true = false → (∀ e ∈ oj.after, Region.binds .any e = true → e.on ≠ i) → oi.apart ops oj = true) →
      i ∈ Region.ready .any ops listed → YieldsIf P ops (fun _ => True) oi v a → (live br listed = true → S w) →
      Ord P ops Q br S n (listed.setIfInBounds i true) (a.put oi.dst v) w → Ord P ops Q br S (n + 1) listed a w := by
  have hib : i ∉ br := fun h => by rw [List.contains_iff_mem.2 h] at hbi; cases hbi
  have back : ∀ (listed : Array Bool), live br (listed.setIfInBounds i true) = true → live br listed = true := fun listed hl => by
    simp only [live, List.all_eq_true] at hl ⊢
    intro k hk
    have := hl k hk
    rwa [getD_set_ne true (fun e => hib (by rw [e]; exact hk))] at this
  intro n
  induction n with
  | zero =>
    intro listed a w _ hr hy hS H
    refine ⟨fun h => absurd hr (by simp [h]), fun j hj => ?_⟩
    by_cases hji : j = i
    · subst hji
      exact hy.wpOp hi trivial ⟨fun h => hS (back _ h), H⟩
    · exact absurd (ready_mono hj hji) (by simp [H.1])
  | succ n ih =>
    intro listed a w hfree hr hy hS H
    refine ⟨fun h => absurd hr (by simp [h]), fun j hj => ?_⟩
    by_cases hji : j = i
    · subst hji
      exact hy.wpOp hi trivial ⟨fun h => hS (back _ h), H⟩
    have h1 := H.2 j (ready_mono hj hji)
    obtain ⟨hjun, oj, hoj, hall⟩ := mem_ready.1 hj
    have hun := (mem_ready.1 hr).1
    have hnot := wait_of hun hoj hj
    have h2 := wpOp_putIf hoj (hfree j oj hoj hji hjun hnot) (fun cs b => hsel i oi cs b hi) (fun cs b => hsel j oj cs b hoj) hQ hy h1
    refine wpOp_mono (fun a' w' h3 => ?_) h2
    have hri : i ∈ Region.ready .any ops (listed.setIfInBounds j true) := ready_mono hr (Ne.symm hji)
    have hS' : live br (listed.setIfInBounds j true) = true → S w' := fun hl => h3.2.1 (by
      simp only [live, List.all_eq_true] at hl ⊢
      intro k hk
      rw [Array.setIfInBounds_comm _ _ (Ne.symm hji), getD_set_ne true (fun e => hib (by rw [e]; exact hk))]
      exact hl k hk)
    refine ⟨hS', ih _ a' w' (fun k ok hk hki hun hno => ?_) hri h3.1 hS' ?_⟩
    · refine hfree k ok hk hki ?_ hno
      by_cases hjk : j = k
      · subst hjk; exact hjun
      · rw [getD_set_ne true hjk] at hun; exact hun
    · rw [Array.setIfInBounds_comm _ _ hji]
      exact h3.2.2
def dropS (ds : List Nat) (ss : List Seg) : List Seg := ds.foldl (fun s i => s.eraseIdx i) ss
theorem Inv.dropS {ss : List Seg} (h : Inv w0 D ss w) (ds : List Nat) : Inv w0 D (dropS ds ss) w := by
  unfold B.dropS
  induction ds generalizing ss with
  | nil => exact h
  | cons i ds ih => exact ih (h.erase i)
section
variable {n : Nat} {listed listed' listed'' : Array Bool}
theorem d_start {id m : Nat} (br ds : List Nat) (hm : P.follows .mixedOrders = true) (hI : Inv w0 D ss w) (hsz : ops.size = m) (hl : Array.replicate m false = listed)
    (h : ∀ w', Inv w0 D ss w' → Ord P ops Q br (fun w => Inv w0 D (dropS ds ss) w) m listed a w') : (Code.region id ops true).wp P Q a w := by
  subst hsz; subst hl
  exact wp_region_any hm ((h _ (hI.drawn _)).any _ _ _ _)
theorem d_load {d : Nat} {v : Value} (i : Nat) (hE : EnvOk N env a) (hi : ops[i]? = some o) (hs : Region.noSelect ops = true) (hf : Region.free .any ops listed i = true) (hr : (Region.ready .any ops listed).contains i = true)
    (hwait : waits ops br i = true) (hcl : closedB ops listed = true) (hbi : br.contains i = false) (hlive : live br listed = true)
    (hQ : ∀ c a w, Q (.panic c) (a.put o.dst v) w → Q (.panic c) a w) (hw : wantedE ops env o = some true) (hd : o.dst = some d) (hN : Nat.blt d N = true) (hp : ∀ w, S w → RunOp P env w o.op v) (hS : S w) (hl : listed.setIfInBounds i true = listed')
    (k : ∀ a', EnvOk N ((d, v) :: env) a' → Ord P ops Q br S n listed' a' w) : Ord P ops Q br S (n + 1) listed a w := by
  subst hl
  refine Ord.first hi (Region.noSelect_spec hs) hQ hwait hbi n listed a w (Region.free_spec hi hf) (closed_of hcl) (by simpa using hr) hlive (.inl ⟨wanted_of hE hw, fun w hS => hp w hS _ a o hE rfl⟩) hS ?_
  rw [hd]
  exact k _ (hE.put hN v)
theorem d_pure {d : Nat} {v : Value} (i : Nat) (hE : EnvOk N env a) (hi : ops[i]? = some o) (hs : Region.noSelect ops = true) (hf : Region.free .any ops listed i = true) (hr : (Region.ready .any ops listed).contains i = true) (hbi : br.contains i = false)
    (hQ : ∀ c a w, Q (.panic c) (a.put o.dst v) w → Q (.panic c) a w) (hw : wantedE ops env o = some true) (hd : o.dst = some d) (hN : Nat.blt d N = true) (hp : PureOp P env o.op v) (hS : live br listed = true → S w) (hl : listed.setIfInBounds i true = listed')
    (k : ∀ a', EnvOk N ((d, v) :: env) a' → Ord P ops Q br S n listed' a' w) : Ord P ops Q br S (n + 1) listed a w := by
  subst hl
  refine Ord.firstP hi (Region.noSelect_spec hs) hQ hbi n listed a w (Region.free_spec hi hf) (by simpa using hr) (.inl ⟨wanted_of hE hw, fun w _ => hp _ a w o hE rfl⟩) hS ?_
  rw [hd]
  exact k _ (hE.put hN v)
theorem d_cmp {op : BinOp} {t t' : TypeId} {x y : Operand} {kx : IntKind} {m m' : Int} {d : Nat} (i : Nat) (hE : EnvOk N env a) (hi : ops[i]? = some o) (hs : Region.noSelect ops = true) (hf : Region.free .any ops listed i = true) (hr : (Region.ready .any ops listed).contains i = true) (hbi : br.contains i = false)
    (hQ : ∀ c a w v, Q (.panic c) (a.put o.dst v) w → Q (.panic c) a w) (hw : wantedE ops env o = some true) (hd : o.dst = some d) (hN : Nat.blt d N = true) (ho : o.op = .binOp op t x y t')
    (hx : ev env x = some (.int kx m)) (hy : ev env y = some (.int kx m')) (hop : (cmpB op 0 0).isSome = true) (hS : live br listed = true → S w) (hl : listed.setIfInBounds i true = listed')
    (kt : cmpB op m m' = some true → ∀ a', EnvOk N ((d, .bool true) :: env) a' → Ord P ops Q br S n listed' a' w) (kf : cmpB op m m' = some false → ∀ a', EnvOk N ((d, .bool false) :: env) a' → Ord P ops Q br S n listed' a' w) : Ord P ops Q br S (n + 1) listed a w := by
  cases hb : cmpB op m m' with
  | none => cases op <;> simp [cmpB] at hb hop
  | some b =>
    have hp : PureOp P env o.op (.bool b) := by rw [ho]; exact p_cmp hx hy hb
    cases b with
    | true => exact d_pure i hE hi hs hf hr hbi (fun c a w => hQ c a w _) hw hd hN hp hS hl (kt hb)
    | false => exact d_pure i hE hi hs hf hr hbi (fun c a w => hQ c a w _) hw hd hN hp hS hl (kf hb)
/-- One alone may come up. -/
theorem d_one (i : Nat) (hE : EnvOk N env a) (hi : ops[i]? = some o) (hr : Region.ready .any ops listed = [i]) (hw : wantedE ops env o = some true) (hl : listed.setIfInBounds i true = listed')
    (h : o.wp P a w (fun a' w' => (live br listed' = true → S w') ∧ Ord P ops Q br S n listed' a' w') Q) : Ord P ops Q br S (n + 1) listed a w := by
  subst hl
  refine ⟨fun h0 => (by rw [h0] at hr; cases hr), fun j hj => ?_⟩
  obtain rfl : j = i := by rw [hr] at hj; simpa using hj
  exact wpOp_go hE hi hw h
theorem d_two {o' : Oper} (i j : Nat) (hE : EnvOk N env a) (hi : ops[i]? = some o) (hj : ops[j]? = some o') (hr : Region.ready .any ops listed = [i, j]) (hw : wantedE ops env o = some true) (hw' : wantedE ops env o' = some true)
    (hl : listed.setIfInBounds i true = listed') (hl' : listed.setIfInBounds j true = listed'')
    (h : o.wp P a w (fun a' w' => (live br listed' = true → S w') ∧ Ord P ops Q br S n listed' a' w') Q) (h' : o'.wp P a w (fun a' w' => (live br listed'' = true → S w') ∧ Ord P ops Q br S n listed'' a' w') Q) : Ord P ops Q br S (n + 1) listed a w := by
  subst hl; subst hl'
  refine ⟨fun h0 => (by rw [h0] at hr; cases hr), fun q hq => ?_⟩
  rw [hr] at hq
  simp only [List.mem_cons, List.not_mem_nil, or_false] at hq
  rcases hq with rfl | rfl
  · exact wpOp_go hE hi hw h
  · exact wpOp_go hE hj hw' h'
def Each (p : Nat → Prop) : List Nat → Prop
  | [] => True
  | i :: r => p i ∧ Each p r
theorem Each.of {p : Nat → Prop} : ∀ {l : List Nat}, Each p l → ∀ i ∈ l, p i
  | [], _, i, h => by cases h
  | j :: r, h, i, hm => by
    rcases List.mem_cons.1 hm with rfl | hm
    · exact h.1
    · exact Each.of h.2 i hm
theorem d_done (hr : Region.ready .any ops listed = []) (h : Q .normal a w) : Ord P ops Q br S n listed a w := by
  cases n with
  | zero => exact ⟨hr, h⟩
  | succ n => exact ⟨fun _ => h, by rw [hr]; simp⟩
end
end
end Go.Proofs.YtbogbnkckofpdaaDoor.B
namespace Go.Proofs.YtbogbnkckofpdaaDoor.B
open Go
set_option linter.unusedVariables false
/-! ### comparisons that part the walk -/
theorem lss_t {m n : Int} (h : cmpB .lss m n = some true) : m < n := by simpa [cmpB] using h
theorem lss_f {m n : Int} (h : cmpB .lss m n = some false) : n ≤ m := by simpa [cmpB] using h
theorem leq_t {m n : Int} (h : cmpB .leq m n = some true) : m ≤ n := by simpa [cmpB] using h
theorem leq_f {m n : Int} (h : cmpB .leq m n = some false) : n < m := by simpa [cmpB] using h
theorem gtr_t {m n : Int} (h : cmpB .gtr m n = some true) : n < m := by simpa [cmpB] using h
theorem gtr_f {m n : Int} (h : cmpB .gtr m n = some false) : m ≤ n := by simpa [cmpB] using h
theorem geq_t {m n : Int} (h : cmpB .geq m n = some true) : n ≤ m := by simpa [cmpB] using h
theorem geq_f {m n : Int} (h : cmpB .geq m n = some false) : m < n := by simpa [cmpB] using h
theorem eql_t {m n : Int} (h : cmpB .eql m n = some true) : m = n := by simpa [cmpB] using h
theorem eql_f {m n : Int} (h : cmpB .eql m n = some false) : m ≠ n := by simpa [cmpB] using h
theorem neq_t {m n : Int} (h : cmpB .neq m n = some true) : m ≠ n := by simpa [cmpB] using h
theorem neq_f {m n : Int} (h : cmpB .neq m n = some false) : m = n := by simpa [cmpB] using h
theorem lss_y {m n : Int} (h : m < n) : cmpB .lss m n = some true := by simpa [cmpB] using h
theorem geq_y {m n : Int} (h : n ≤ m) : cmpB .geq m n = some true := by simpa [cmpB] using h
theorem eql_y {m n : Int} (h : m = n) : cmpB .eql m n = some true := by simpa [cmpB] using h
theorem eql_n {m n : Int} (h : m ≠ n) : cmpB .eql m n = some false := by simpa [cmpB] using h
theorem neq_n {m n : Int} (h : m = n) : cmpB .neq m n = some false := by simpa [cmpB] using h
section
variable {P : Program} {ops : Array Oper} {Q : Exit → Act → World → Prop} {a : Act} {w w' w0 : World} {D : Sto} {ss : List Seg} {o : Oper} {N : Nat} {env : Env} {K : Act → World → Prop}
theorem o_cmp {op : BinOp} {t t' : TypeId} {x y : Operand} {k : IntKind} {m n : Int} {d : Nat} (hE : EnvOk N env a) (hd : o.dst = some d) (hN : Nat.blt d N = true) (ho : o.op = .binOp op t x y t')
    (hx : ev env x = some (.int k m)) (hy : ev env y = some (.int k n)) (hop : (cmpB op 0 0).isSome = true)
    (kt : cmpB op m n = some true → ∀ a', EnvOk N ((d, .bool true) :: env) a' → K a' w) (kf : cmpB op m n = some false → ∀ a', EnvOk N ((d, .bool false) :: env) a' → K a' w) : o.wp P a w K Q := by
  cases hb : cmpB op m n with
  | none => cases op <;> simp [cmpB] at hb hop
  | some b =>
    have hp : RunOp P env w o.op (.bool b) := by rw [ho]; exact (p_cmp hx hy hb).run
    cases b with
    | true => exact o_pure hE hd hN hp (kt hb)
    | false => exact o_pure hE hd hN hp (kf hb)
end
end Go.Proofs.YtbogbnkckofpdaaDoor.B
namespace Go.Proofs.YtbogbnkckofpdaaDoor.B
open Go
set_option linter.unusedVariables false
/-! ### sums without a wrap -/
theorem add_z {m n z : Int} (h : m + n = z) (h0 : -9223372036854775808 ≤ z) (h1 : z ≤ 9223372036854775807) : arithZ .add .i64 m n = some z := by
  simp only [arithZ, h, IntWalk.i64_in z ⟨h0, h1⟩]
theorem sub_z {m n z : Int} (h : m - n = z) (h0 : -9223372036854775808 ≤ z) (h1 : z ≤ 9223372036854775807) : arithZ .sub .i64 m n = some z := by
  simp only [arithZ, h, IntWalk.i64_in z ⟨h0, h1⟩]
theorem u8_z {m : Int} : IntKind.u8.wrap m = ((m % 256).toNat : Nat) := by
  rw [IntKind.wrap_u8, Int.toNat_of_nonneg (Int.emod_nonneg _ (by omega))]
/-! ### what is appended -/
theorem lit_news {w : World} {b : Nat} {cs : Array Value} {T : TypeId} {fr : Nat × Nat} (hc : w.heap[b]? = some (.cells cs T fr)) : ∀ j u, cs.toList[j]? = some u → w.cell? ((⟨b, 0, none⟩ : Addr).add j) = some u := by
  intro j u hj
  rw [addr_add, cell_of hc]
  simpa using hj
theorem Row.cast {T size n n' : Nat} {v : Value} {xs ys : List Value} {s : Seg} (h : Row T size v n xs s) (hx : xs = ys) (hn : n = n') : Row T size v n' ys s := by subst hx; subst hn; exact h
/-- A literal's block is a row. -/
theorem Row.lit {T size n b : Nat} {cs : Array Value} (hs : cs.size = n * size) (hn : n ≤ 9223372036854775807) : Row T size (.slice (some ⟨b, 0, none⟩) n n) n cs.toList [(b, .cells cs T (0, 0))] :=
  ⟨by simp [hs], .inr ⟨b, n, cs, rfl, rfl, Nat.le_refl _, by simpa [maxLen] using hn, hs, by rw [← hs, ← Array.length_toList, List.take_length]⟩⟩
theorem RB.cell {bs : List Nat} {o : Nat} {cs : Array Value} {i : Int} (h : ∀ j x, bs[j]? = some x → cs[o + j]? = some (.int .u8 (x : Nat))) (h0 : 0 ≤ i) (h1 : i.toNat < bs.length) : cs[o + i.toNat * 1]? = some (.int .u8 (bs.getD i.toNat 0 : Nat)) := by
  have := h i.toNat _ (List.getElem?_eq_getElem h1)
  rw [Nat.mul_one, this]
  simp [List.getD_eq_getElem?_getD, List.getElem?_eq_getElem h1]
end Go.Proofs.YtbogbnkckofpdaaDoor.B
