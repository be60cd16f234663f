/- A program logic over the model: what is owned, what is written no more, and one lemma for each kind of step. -/
import Derived.Test.YtbogbnkckofpdaaDoorSData
import GoSem.Extern.BytealgCompare
namespace Go.Proofs.YtbogbnkckofpdaaDoor.B
open Go
set_option linter.unusedVariables false
set_option linter.unusedSimpArgs false
section
variable {P : Program} {ops : Array Oper} {Q : Exit → Act → World → Prop} {a : Act} {w0 w w' : World} {D : Sto} {ss : List Seg} {rest : List Oper} {o : Oper} {N : Nat} {env : Env} {K : Act → World → Prop}
theorem p_cap {t : TypeId} {e : TypeId} {x : Operand} {A : Option Addr} {n c : Nat} {ts : Array TypeId} (hx : ev env x = some (.slice A n c)) (hts : ts[0]? = some t) (ht : P.underlying t = some (.slice e)) :
    PureOp P env (.call { callee := .builtin .cap, args := #[x], argTypes := ts }) (.int .i64 c) := fun _ a w o hE ho => by
  have h1 := hE.eval hx
  simp [execOp, ho, resolve, h1, invoke, builtin, Builtin.cap_, hts, underlying, program, ht, Sem.run, goInt]
theorem p_min {x y : Operand} {k k' : IntKind} {m n z : Int} {ts : Array TypeId} (hx : ev env x = some (.int k m)) (hy : ev env y = some (.int k' n)) (hz : min m n = z) :
    PureOp P env (.call { callee := .builtin .min, args := #[x, y], argTypes := ts }) (.int k z) := fun _ a w o hE ho => by
  have h1 := hE.eval hx; have h2 := hE.eval hy
  have : (if n < m then n else m) = z := by rw [← hz]; simp only [Int.min_def]; split <;> split <;> omega
  simp [execOp, ho, resolve, h1, h2, invoke, builtin, Builtin.min_, Builtin.min2, Sem.run, this]
theorem p_max {x y : Operand} {k k' : IntKind} {m n z : Int} {ts : Array TypeId} (hx : ev env x = some (.int k m)) (hy : ev env y = some (.int k' n)) (hz : max m n = z) :
    PureOp P env (.call { callee := .builtin .max, args := #[x, y], argTypes := ts }) (.int k z) := fun _ a w o hE ho => by
  have h1 := hE.eval hx; have h2 := hE.eval hy
  have : (if m < n then n else m) = z := by rw [← hz]; simp only [Int.max_def]; split <;> split <;> omega
  simp [execOp, ho, resolve, h1, h2, invoke, builtin, Builtin.max_, Builtin.max2, Sem.run, this]
/-- A function without a Go body. -/
theorem r_extern {f : FuncId} {xs : Array Operand} {ts : Array TypeId} {vs : Array Value} {v : Value} {fn : Func} {e : Array Value → Sem Value} (hv : xs.toList.map (ev env) = vs.toList.map some)
    (hf : P.funcs[f]? = some fn) (hname : (fn.name == "runtime.NumGoroutine") = false) (hb : fn.body.isNone = true) (hn : Extern.findNext fn = none) (he : Extern.find fn = some e)
    (hr : (e vs).run P w = .ok v w) : RunOp P env w (.call { callee := .value (.func f), args := xs, argTypes := ts }) v := fun _ a o hE ho => by
  have hargs := args_of hE hv
  have h1 := run_callFunc_extern (P := P) hf hname hb hn he vs w
  rw [hr] at h1
  simp [execOp, ho, resolve, Act.eval, Deferred.ofValue, invoke, hargs, h1, Result.andThen]
theorem size_of {e size : Nat} (h : (P.info? e).map (·.size) = some size) : ∀ w, (sizeOf e).run P w = .ok size w := fun w => by
  obtain ⟨i, hi, rfl⟩ := Option.map_eq_some_iff.1 h
  simp [sizeOf, typeInfo, hi]
/-- copy: what is written is segment j; what is read lies anywhere. -/
theorem o_copy {x y : Operand} {t t' e size g off dn dc sn sc d T : Nat} {ad : Addr} {news : List Value} {cur : Array Value} (j : Nat) (hE : EnvOk N env a) (hI : Inv w0 D ss w) (hd : o.dst = some d) (hN : Nat.blt d N = true)
    (ho : o.op = .call { callee := .builtin .copy, args := #[x, y], argTypes := #[t, t'] }) (hx : ev env x = some (.slice (some ⟨g, off, none⟩) dn dc)) (hy : ev env y = some (.slice (some ad) sn sc)) (ht : P.underlying t = some (.slice e))
    (hs : (P.info? e).map (·.size) = some size) (hj : ss[j]? = some [(g, .cells cur T (0, 0))]) (hl : news.length = Nat.min sn dn * size) (hnews : ∀ j u, news[j]? = some u → w.cell? (ad.add j) = some u) (h1 : ∀ u ∈ news, u.oneCell' = true) (hfit : off + news.length ≤ cur.size)
    (k : ∀ w', Inv w0 D (ss.set j [(g, .cells (splice cur off news) T (0, 0))]) w' → ∀ a', EnvOk N ((d, .int .i64 (Nat.min sn dn : Nat)) :: env) a' → K a' w') : o.wp P a w K Q := by
  have hb := hI.seg j hj
  have hld := run_loadCells_list (P := P) w ad news hnews
  have hst := run_storeCells_off (P := P) news off 0 cur w hb (by omega) h1
  simp only [Nat.add_zero] at hst
  have hrun : (execOp a.eval o).run P w = .ok (.value (.int .i64 (Nat.min sn dn : Nat))) { w with heap := w.heap.setIfInBounds g (.cells (splice cur off news) T (0, 0)) } := by
    simp only [execOp, ho, resolve, invoke, builtin, Sem.run_bind, Sem.run_pure, Result.andThen_ok, List.map_toArray, List.map_cons, List.map_nil, hE.eval hx, hE.eval hy]
    simp [Builtin.copy_, run_underlying ht, Builtin.lenOf, Builtin.firstCells, size_of hs, ← hl, hld, hst, goInt]
  refine o_val hrun (by rw [hd]; exact k _ (hI.turn_at j hj) _ (hE.put hN _))
theorem size_zeroCells' (z : Array Value) (n : Nat) : (Builtin.zeroCells z n).size = n * z.size := by simp [Builtin.zeroCells]
/-- append where there is room: in place; what is appended may be of the row itself. -/
theorem o_appendIn {x y : Operand} {t e size g n m c cap d T : Nat} {ad : Addr} {news : List Value} {cur : Array Value} (j : Nat) (hE : EnvOk N env a) (hI : Inv w0 D ss w) (hd : o.dst = some d) (hN : Nat.blt d N = true)
    (ho : o.op = .call { callee := .builtin .append, args := #[x, y], argTypes := #[t, t] }) (hx : ev env x = some (.slice (some ⟨g, 0, none⟩) n cap)) (hy : ev env y = some (.slice (some ad) m c)) (ht : P.underlying t = some (.slice e)) (hnz : (P.underlying t matches some (.int _)) = false)
    (hs : (P.info? e).map (·.size) = some size) (hj : ss[j]? = some [(g, .cells cur T (0, 0))]) (hl : news.length = m * size) (hnews : ∀ j u, news[j]? = some u → w.cell? (ad.add j) = some u) (h1 : ∀ u ∈ news, u.oneCell' = true) (hroom : n + m ≤ cap) (hfit : n * size + news.length ≤ cur.size)
    (k : ∀ w', Inv w0 D (ss.set j [(g, .cells (splice cur (n * size) news) T (0, 0))]) w' → ∀ a', EnvOk N ((d, .slice (some ⟨g, 0, none⟩) (n + m) cap) :: env) a' → K a' w') : o.wp P a w K Q := by
  have hb := hI.seg j hj
  have hld := run_loadCells_list (P := P) w ad news hnews
  have hst := run_storeCells_off (P := P) news (n * size) 0 cur w hb (by omega) h1
  simp only [Nat.add_zero] at hst
  have hrun : (execOp a.eval o).run P w = .ok (.value (.slice (some ⟨g, 0, none⟩) (n + m) cap)) { w with heap := w.heap.setIfInBounds g (.cells (splice cur (n * size) news) T (0, 0)) } := by
    simp only [execOp, ho, resolve, invoke, builtin, Sem.run_bind, Sem.run_pure, Result.andThen_ok, List.map_toArray, List.map_cons, List.map_nil, hE.eval hx, hE.eval hy]
    simp [Builtin.append_, run_underlying ht, Builtin.lenOf, Builtin.firstCells, size_of hs, ← hl, hld, hst, goInt, hroom, addr_add]
  refine o_val hrun (by rw [hd]; exact k _ (hI.turn_at j hj) _ (hE.put hN _))
/-- append(x, make([]E, m)..) where there is no room: a new row. -/
theorem o_appendZ {x y : Operand} {t tn e size bytes g n m c d T : Nat} {kn kq : IntKind} {z : Value} {cur : Array Value} (j : Nat) (hE : EnvOk N env a) (hI : Inv w0 D ss w) (hd : o.dst = some d) (hN : Nat.blt d N = true)
    (ho : o.op = .call { callee := .builtin .append, args := #[x, y], argTypes := #[t, tn] }) (hx : ev env x = some (.slice (some ⟨g, 0, none⟩) n c)) (hy : ev env y = some (.int kq (m : Nat))) (ht : P.underlying t = some (.slice e)) (htn : P.underlying tn = some (.int kn))
    (hinfo : (P.info? e).map (fun i => (i.zero, i.size, i.bytes)) = some (some z, size, bytes)) (hzs : z.cells.size = size) (hsz : 0 < size) (hj : ss[j]? = some [(g, .cells cur T (0, 0))]) (hn : n * size ≤ cur.size) (hm : 0 < m) (hg : c < n + m) (h63 : n + m ≤ 9223372036854775807) (hb : (n + m) * bytes ≤ 140737488355328)
    (k : ∀ g' cap' cur' w', n + m ≤ cap' → cap' ≤ maxLen → cur'.size = cap' * size → (∀ p, p < n * size → cur'[p]? = cur[p]?) → Inv w0 D ([(g', .cells cur' e (0, 0))] :: ss) w' → ∀ a', EnvOk N ((d, .slice (some ⟨g', 0, none⟩) (n + m) cap') :: env) a' → K a' w') : o.wp P a w K Q := by
  obtain ⟨inf, hi0, hzz⟩ := Option.map_eq_some_iff.1 hinfo
  simp only [Prod.mk.injEq] at hzz
  obtain ⟨hz, rfl, rfl⟩ := hzz
  have hcell := hI.seg j hj
  have holds : ∀ i v, (cur.toList.take (n * inf.size))[i]? = some v → w.cell? ((⟨g, 0, none⟩ : Addr).add i) = some v := fun i v hv => by
    rw [addr_add, cell_of hcell, ← Array.getElem?_toList]
    rw [List.getElem?_take] at hv
    split at hv
    · simpa using hv
    · cases hv
  have hlen : (cur.toList.take (n * inf.size)).length = n * inf.size := by
    have : cur.toList.length = cur.size := Array.length_toList
    rw [List.length_take]; omega
  have hold : (Builtin.firstCells inf.size n (.slice (some ⟨g, 0, none⟩) n c)).run P w.drew = .ok (cur.toList.take (n * inf.size)).toArray w.drew := by
    have h2 := run_loadCells_list (P := P) w.drew ⟨g, 0, none⟩ (cur.toList.take (n * inf.size)) (fun i v hv => holds i v hv)
    rw [hlen] at h2
    exact h2
  have hr := Lib.run_append_grow_zeros (P := P) w t tn o.type e inf z kq kn ht htn hi0 hz (some ⟨g, 0, none⟩) n c _ hold m hm hsz hg (by omega) (by
      have := Nat.mul_le_mul_right inf.bytes (show m ≤ n + m by omega); omega) (growslice_fits (by omega) hb)
  obtain ⟨G, hG⟩ : ∃ G, G = grownCap w (n + m) c e := ⟨_, rfl⟩
  have hge := grownCap_ge w (n + m) c e
  have hcm := grownCap_le_maxLen w (n + m) c e (by simpa [maxLen] using h63)
  rw [← hG] at hr hge hcm
  obtain ⟨R, hR⟩ : ∃ R, R = ((cur.toList.take (n * inf.size)).toArray ++ Builtin.zeroCells z.cells m ++ Builtin.zeroCells z.cells (G - (n + m)) : Array Value) := ⟨_, rfl⟩
  rw [← hR] at hr
  have hrun : (execOp a.eval o).run P w = .ok (.value (.slice (some ⟨w.heap.size, 0, none⟩) (n + m) G)) (w.drew.alloc (.cells R e)) := by
    simp only [execOp, ho, resolve, invoke, builtin, Sem.run_bind, Sem.run_pure, Result.andThen_ok, List.map_toArray, List.map_cons, List.map_nil, hE.eval hx, hE.eval hy, hr]
  have hI' : Inv w0 D ([(w.heap.size, .cells R e (0, 0))] :: ss) (w.drew.alloc (.cells R e)) := (Inv.drawn hI w.drew.drawn).new (.cells R e (0, 0))
  have hRs : R.size = G * inf.size := by
    rw [hR]
    have h3 : (cur.toList.take (n * inf.size)).toArray.size = n * inf.size := by simpa using hlen
    rw [Array.size_append, Array.size_append, size_zeroCells', size_zeroCells', hzs, h3, ← Nat.add_mul, ← Nat.add_mul]
    congr 1
    omega
  have hcur : ∀ p, p < n * inf.size → R[p]? = cur[p]? := fun p hp => by
    have h3 : (cur.toList.take (n * inf.size)).toArray.size = n * inf.size := by simpa using hlen
    have h5 : p < (cur.toList.take (n * inf.size)).toArray.size := by rw [h3]; exact hp
    rw [hR, Array.append_assoc, Array.getElem?_append_left h5]
    show ((cur.toList.take (n * inf.size)).toArray)[p]? = cur[p]?
    rw [List.getElem?_toArray, List.getElem?_take_of_lt hp, Array.getElem?_toList]
  exact o_val hrun (by rw [hd]; exact k _ G R _ hge hcm hRs hcur hI' _ (hE.put hN _))
end
/-! ### bytealg.Compare -/
def cmpL : List Nat → List Nat → Int
  | [], [] => 0
  | [], _ :: _ => -1
  | _ :: _, [] => 1
  | x :: xs, y :: ys => if x = y then cmpL xs ys else if x < y then -1 else 1
def baOf (bs : List Nat) : ByteArray := ⟨(bs.map fun x => x.toUInt8).toArray⟩
theorem size_baOf (bs : List Nat) : (baOf bs).size = bs.length := by simp [baOf, ByteArray.size]
theorem get_baOf {bs : List Nat} {i : Nat} (h : i < bs.length) : (baOf bs)[i]! = (bs[i]).toUInt8 := by
  have h1 : i < (baOf bs).size := by rw [size_baOf]; exact h
  rw [getElem!_pos (baOf bs) i h1]
  simp [baOf, ByteArray.getElem_eq_getElem_data]
theorem loadBytes_run {P : Program} {w : World} {b : Nat} {cs : Array Value} {T : TypeId} {fr : Nat × Nat} (hb : w.heap[b]? = some (.cells cs T fr)) : ∀ (bs : List Nat) (off : Nat) (acc : ByteArray), (∀ i x, bs[i]? = some x → cs[off + i]? = some (.int .u8 (x : Nat))) →
    (Extern.Bytes.loadBytes ⟨b, off, none⟩ bs.length acc).run P w = .ok ⟨acc.data ++ (bs.map fun x => x.toUInt8).toArray⟩ w
  | [], off, acc, _ => by simp [Extern.Bytes.loadBytes]
  | x :: r, off, acc, h => by
    have h0 : (load ⟨b, off, none⟩).run P w = .ok (.int .u8 (x : Nat)) w := run_load_at (by rw [cell_of hb]; exact h 0 x rfl)
    have ih := loadBytes_run (P := P) hb r (off + 1) (acc.push x.toUInt8) (fun i y hy => by
      have := h (i + 1) y (by simpa using hy)
      rw [show off + 1 + i = off + (i + 1) by omega]; exact this)
    simp only [List.length_cons, Extern.Bytes.loadBytes, Sem.run_bind, h0, Result.andThen_ok, Int.toNat_natCast, addr_add, ih]
    simp [ByteArray.push]
theorem bytesOf_run {P : Program} {w0 w : World} {D : Sto} {ss : List Seg} {v : Value} {bs : List Nat} (hI : Inv w0 D ss w) (h : RB D v bs) : (Extern.Bytes.bytesOf v).run P w = .ok (baOf bs) w := by
  obtain ⟨A, c, rfl, hc, hlt, hA, hat⟩ := h
  cases A with
  | none =>
    have hnil : bs = [] := by
      cases bs with
      | nil => rfl
      | cons x r => obtain ⟨b, off, cs, T, fr, h6, _⟩ := hat (by simp); cases h6
    subst hnil
    rfl
  | some ad =>
    cases bs with
    | nil => simp [Extern.Bytes.bytesOf, Extern.Bytes.loadBytes, baOf]; rfl
    | cons x r =>
      obtain ⟨b, off, cs, T, fr, h6, h7, h8⟩ := hat (by simp)
      injection h6 with h6; subst h6
      have := loadBytes_run (P := P) (hI.data _ _ h7) (x :: r) off .empty h8
      simp only [Extern.Bytes.bytesOf, this]
      simp [baOf]
theorem cmp_aux (xs ys : List Nat) (hx : ∀ x ∈ xs, x < 256) (hy : ∀ y ∈ ys, y < 256) : ∀ (n i : Nat), n = min xs.length ys.length - i → i ≤ min xs.length ys.length → xs.take i = ys.take i →
    (match (List.range' i n).find? (fun i => (baOf xs)[i]! != (baOf ys)[i]!) with
    | some i => if (baOf xs)[i]! < (baOf ys)[i]! then (-1 : Int) else 1
    | none => if xs.length < ys.length then -1 else if xs.length > ys.length then 1 else 0) = cmpL (xs.drop i) (ys.drop i)
  | 0, i, hn, hi, ht => by
    simp only [List.range'_zero, List.find?_nil]
    by_cases h1 : xs.length ≤ i
    · rw [List.drop_of_length_le h1]
      by_cases h2 : ys.length ≤ i
      · rw [List.drop_of_length_le h2, if_neg (by omega), if_neg (by omega)]; rfl
      · rw [if_pos (by omega), List.drop_eq_getElem_cons (by omega)]; rfl
    · rw [List.drop_eq_getElem_cons (by omega), List.drop_of_length_le (show ys.length ≤ i by omega), if_neg (by omega), if_pos (by omega)]; rfl
  | n + 1, i, hn, hi, ht => by
    have h1 : i < xs.length := by omega
    have h2 : i < ys.length := by omega
    have ha := hx _ (List.getElem_mem h1); have hb := hy _ (List.getElem_mem h2)
    have e1 : (xs[i]).toUInt8.toNat = xs[i] := by simp [Nat.mod_eq_of_lt ha]
    have e2 : (ys[i]).toUInt8.toNat = ys[i] := by simp [Nat.mod_eq_of_lt hb]
    rw [List.range'_succ, List.drop_eq_getElem_cons h1, List.drop_eq_getElem_cons h2]
    simp only [List.find?_cons, get_baOf h1, get_baOf h2, cmpL]
    by_cases he : xs[i] = ys[i]
    · rw [if_pos he, he]
      simp only [bne_self_eq_false]
      exact cmp_aux xs ys hx hy n (i + 1) (by omega) (by omega) (by rw [List.take_succ_eq_append_getElem h1, List.take_succ_eq_append_getElem h2, ht, he])
    · rw [if_neg he]
      have hne : ((xs[i]).toUInt8 != (ys[i]).toUInt8) = true := by
        simp only [bne_iff_ne, ne_eq]
        intro h
        have := congrArg UInt8.toNat h
        rw [e1, e2] at this
        exact he this
      simp only [hne, get_baOf h1, get_baOf h2]
      have : (xs[i]).toUInt8 < (ys[i]).toUInt8 ↔ xs[i] < ys[i] := by rw [UInt8.lt_iff_toNat_lt, e1, e2]
      simp only [this]
theorem compare_run {P : Program} {w0 w : World} {D : Sto} {ss : List Seg} {v u : Value} {xs ys : List Nat} (hI : Inv w0 D ss w) (h : RB D v xs) (k : RB D u ys) : (Extern.BytealgCompare.compare #[v, u]).run P w = .ok (.int .i64 (cmpL xs ys)) w := by
  have h1 := bytesOf_run (P := P) hI h
  have h2 := bytesOf_run (P := P) hI k
  have h3 : Extern.BytealgCompare.cmp (baOf xs) (baOf ys) = cmpL xs ys := by
    have := cmp_aux xs ys h.lt k.lt (min xs.length ys.length) 0 (by omega) (by omega) rfl
    simp only [List.drop_zero] at this
    rw [← this]
    simp only [Extern.BytealgCompare.cmp, size_baOf, List.range_eq_range']
    rfl
  show (do pure (goInt (Extern.BytealgCompare.cmp (← Extern.Bytes.bytesOf v) (← Extern.Bytes.bytesOf u))) : Sem Value).run P w = _
  simp [h1, h2, h3, goInt]
end Go.Proofs.YtbogbnkckofpdaaDoor.B
