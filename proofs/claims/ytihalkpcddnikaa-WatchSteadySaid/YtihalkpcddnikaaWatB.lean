/-
  The judge: the map of what was told; the judge's parts beside one another; what a reading does, in plain terms.
-/
import Derived.Test.YtihalkpcddnikaaWatA
import Derived.Test.YtihalkpcddnikaaCusY
import Derived.Test.YtihalkpcddnikaaStuV
import Derived.Test.YtihalkpcddnikaaQuarV
namespace Go.Proofs.Ytihalkpcddnikaa
open Go.RowKit Go.Maps
set_option linter.unusedVariables false
set_option linter.unusedSimpArgs false

/-! ### the map of counts -/
theorem keyE : Keyed Try.prog 29 := int_keyed Try.underlying29
theorem keyEr (i : Int) (h : (Lit.int .i64 i).wf = true) : keyOf Try.prog 29 (.int .i64 i) = some (.int .i64 i) := keyOf_int_mk Try.underlying29 h
def inD (m : Int) : DataW Unit := .lit (.int .i64 m)
def inR (v : Value) : Option (DataW Unit × List MemPlace) :=
  match v with
  | .int .i64 m => some (inD m, [])
  | _ => none
theorem inR_mk (m : Int) : inR (.int .i64 m) = some (inD m, []) := rfl
theorem inR_inv {v : Value} {z : DataW Unit × List MemPlace} (h : inR v = some z) : ∃ m, v = .int .i64 m ∧ z = (inD m, []) := by
  unfold inR at h
  split at h
  · rename_i m
    simp only [Option.some.injEq] at h
    exact ⟨m, rfl, h.symm⟩
  · cases h
theorem inD_inj {m m' : Int} (h : inD m = inD m') : m = m' := by
  unfold inD at h
  simpa using h
theorem zeroIn (w : World) : (zeroValue 3).run Try.prog w = .ok (.int .i64 0) w := by kernel_rfl
/-- Block b is a map of at most n entries that holds the counts f (0 where it holds none). -/
def TabT (w : World) (b n : Nat) (f : Int → Int) : Prop :=
  ∃ D : DataW Unit, w.ownsMap Try.prog 29 inR b n D ∧ ∀ i, I64 i → D.atKey (.int .i64 i) (inD 0) = inD (f i)
theorem TabT.lt {w : World} {b n : Nat} {f : Int → Int} (h : TabT w b n f) : b < w.heap.size := by obtain ⟨D, h1, _⟩ := h; exact h1.lt
theorem TabT.kept {w w' : World} {b n : Nat} {f : Int → Int} {row : Option Nat} (h : TabT w b n f) (hg : w.grownBy w' row) (hne : some b ≠ row) : TabT w' b n f := by
  obtain ⟨D, h1, h2⟩ := h; exact ⟨D, h1.kept hg hne, h2⟩
theorem TabT.mono {w : World} {b n n' : Nat} {f : Int → Int} (h : TabT w b n f) (hn : n ≤ n') : TabT w b n' f := by
  obtain ⟨D, h1, h2⟩ := h; exact ⟨D, h1.mono hn, h2⟩
theorem TabT.new (w : World) : TabT (w.alloc (.map #[] 0)) w.heap.size 0 (fun _ => 0) :=
  ⟨.map [], World.ownsMap_made w _ _ _, fun _ _ => rfl⟩
def updT (f : Int → Int) (i m : Int) : Int → Int := fun j => if j = i then m else f j
theorem TabT.lookup {w : World} {b n : Nat} {f : Int → Int} (h : TabT w b n f) {i : Int} (hi : I64 i) : (Instr.lookup 83 (.map (some b)) (.int .i64 i) false).run Try.prog w = .ok (.int .i64 (f i)) w := by
  obtain ⟨D, h1, h2⟩ := h
  obtain ⟨v, ps, hr, hv⟩ := h1.lookup keyE Try.underlying83 (zeroIn w) (inR_mk _) (keyEr i (wfI hi.1 hi.2))
  rw [h2 i hi] at hv
  obtain ⟨m, rfl, hz⟩ := inR_inv hv
  simp only [Prod.mk.injEq] at hz
  rw [hr, ← inD_inj hz.1]
theorem TabT.update {w : World} {b n : Nat} {f : Int → Int} (h : TabT w b n f) (hn : n < 9000000) {i : Int} (hi : I64 i) (m : Int) :
    ∃ w', (Instr.mapUpdate 83 (.map (some b)) (.int .i64 i) (.int .i64 m)).run Try.prog w = .ok () w' ∧ TabT w' b (n + 1) (updT f i m) ∧ w.grownBy w' (some b) := by
  obtain ⟨D, h1, h2⟩ := h
  obtain ⟨w', hr, h3, hg⟩ := h1.update keyE Try.underlying83 (by unfold maxLen; omega) (keyEr i (wfI hi.1 hi.2)) (inR_mk m)
  refine ⟨w', hr, ⟨_, h3, fun j hj => ?_⟩, hg⟩
  unfold updT
  by_cases hij : j = i
  · subst hij
    rw [if_pos rfl, atKey_put_same h1.isMap (keyE.key (keyEr j (wfI hi.1 hi.2)))]
  · rw [if_neg hij, atKey_put_other (by intro e; simp at e; exact hij (by first | exact e | exact e.symm))]
    exact h2 j hj

/-! ### the judge -/
/-- What a judge holds. -/
structure JS where
  o : Int
  g : Int
  m : Int
  Q : Q.QuarS
  slack : Int
  most : Int
  G : Int → Int → Pr
  same : Int
  rate : Int
  F : Int → Option StO
  T : Int → Int
/-- Its blocks: itself, the keeper, the monitor and its map, the watcher and its map, the counts. -/
structure JB where
  j : Nat
  q : Nat
  c : Nat
  b : Nat
  k : Nat
  m : Nat
  t : Nat
def JB.all (p : JB) : List Nat := [p.j, p.q, p.c, p.b, p.k, p.m, p.t]
structure JOK (S : JS) (n : Nat) : Prop where
  g1 : G.gateOK S.o S.g S.m = true
  g2 : S.m ≤ 9223372036854775807
  q1 : Q.QuarOK S.Q n
  s1 : 0 ≤ S.slack
  s2 : I64 S.slack
  s3 : 0 < S.most
  gb : GB S.G
  st : StOK S.same S.rate S.F n
  t1 : ∀ i, 0 ≤ S.T i ∧ S.T i ≤ n
structure JAt (w : World) (p : JB) (S : JS) (n : Nat) : Prop where
  c0 : w.cell? ⟨p.j, 0, none⟩ = some (.pointer (some ⟨p.q, 0, none⟩))
  c1 : w.cell? ⟨p.j, 1, none⟩ = some (.int .i64 S.o)
  c2 : w.cell? ⟨p.j, 2, none⟩ = some (.int .i64 S.g)
  c3 : w.cell? ⟨p.j, 3, none⟩ = some (.int .i64 S.m)
  c4 : w.cell? ⟨p.j, 4, none⟩ = some (.pointer (some ⟨p.c, 0, none⟩))
  c5 : w.cell? ⟨p.j, 5, none⟩ = some (.pointer (some ⟨p.k, 0, none⟩))
  c6 : w.cell? ⟨p.j, 6, none⟩ = some (.map (some p.t))
  lt : p.j < w.heap.size
  ql : p.q < w.heap.size
  qu : Q.QuarAt w p.q S.Q
  cu : CuAt w p.c p.b n S.slack S.most S.G
  su : StAt w p.k p.m n S.same S.rate S.F
  te : TabT w p.t n S.T
  nd : p.all.Nodup
  ok : JOK S n
section
variable {w w' : World} {p : JB} {S : JS} {n : Nat}
theorem JAt.cells (h : JAt w p S n) (hb : w'.heap[p.j]? = w.heap[p.j]?) :
    w'.cell? ⟨p.j, 0, none⟩ = some (.pointer (some ⟨p.q, 0, none⟩)) ∧ w'.cell? ⟨p.j, 1, none⟩ = some (.int .i64 S.o) ∧ w'.cell? ⟨p.j, 2, none⟩ = some (.int .i64 S.g) ∧ w'.cell? ⟨p.j, 3, none⟩ = some (.int .i64 S.m) ∧
    w'.cell? ⟨p.j, 4, none⟩ = some (.pointer (some ⟨p.c, 0, none⟩)) ∧ w'.cell? ⟨p.j, 5, none⟩ = some (.pointer (some ⟨p.k, 0, none⟩)) ∧ w'.cell? ⟨p.j, 6, none⟩ = some (.map (some p.t)) := by
  have e : ∀ i, w'.cell? ⟨p.j, i, none⟩ = w.cell? ⟨p.j, i, none⟩ := fun i => World.cell?_of_block (a := ⟨p.j, i, none⟩) hb
  exact ⟨by rw [e]; exact h.c0, by rw [e]; exact h.c1, by rw [e]; exact h.c2, by rw [e]; exact h.c3, by rw [e]; exact h.c4, by rw [e]; exact h.c5, by rw [e]; exact h.c6⟩
theorem JAt.kept {row : Option Nat} (h : JAt w p S n) (hg : w.grownBy w' row) (hr : ∀ x ∈ p.all, some x ≠ row) : JAt w' p S n := by
  obtain ⟨a0, a1, a2, a3, a4, a5, a6⟩ := h.cells (hg.block p.j h.lt (hr _ (by simp [JB.all])))
  exact ⟨a0, a1, a2, a3, a4, a5, a6, Nat.lt_of_lt_of_le h.lt hg.size, Nat.lt_of_lt_of_le h.ql hg.size, h.qu.kept hg (hr _ (by simp [JB.all])), h.cu.kept hg (hr _ (by simp [JB.all])) (hr _ (by simp [JB.all])),
    h.su.kept hg (hr _ (by simp [JB.all])) (hr _ (by simp [JB.all])), h.te.kept hg (hr _ (by simp [JB.all])), h.nd, h.ok⟩
theorem JAt.below (h : JAt w p S n) (hb : Below w.heap.size w w') : JAt w' p S n := h.kept (gr_below none hb) (fun _ _ => by simp)
theorem JAt.lts (h : JAt w p S n) : ∀ x ∈ p.all, x < w.heap.size := by
  intro x hx
  simp only [JB.all, List.mem_cons, List.not_mem_nil, or_false] at hx
  rcases hx with rfl | rfl | rfl | rfl | rfl | rfl | rfl
  · exact h.lt
  · exact h.ql
  · exact h.cu.lt
  · exact h.cu.tab.lt
  · exact h.su.lt
  · exact h.su.tab.lt
  · exact h.te.lt
theorem JAt.new (h : JAt w p S n) {r : Nat} (hr : w.heap.size ≤ r) (hg : w.grownBy w' (some r)) : JAt w' p S n :=
  h.kept hg (fun x hx e => by injection e with e; have := h.lts x hx; omega)
theorem CuAt.mono {w : World} {c b n n' : Nat} {slack most : Int} {g : Int → Int → Pr} (h : CuAt w c b n slack most g) (hn : n ≤ n') : CuAt w c b n' slack most g := ⟨h.c0, h.c1, h.c2, h.lt, h.ne, TabC.mono h.tab hn⟩
theorem TabS.mono {w : World} {b n n' : Nat} {f : Int → Option StO} (h : TabS w b n f) (hn : n ≤ n') : TabS w b n' f := by
  obtain ⟨D, h1, h2⟩ := h; exact ⟨D, h1.mono hn, h2⟩
theorem StAt.mono {w : World} {c b n n' : Nat} {same rate : Int} {f : Int → Option StO} (h : StAt w c b n same rate f) (hn : n ≤ n') : StAt w c b n' same rate f := ⟨h.c0, h.c1, h.c2, h.lt, h.ne, TabS.mono h.tab hn⟩
theorem JOK.mono {n' : Nat} (h : JOK S n) (hn : n ≤ n') : JOK S n' :=
  ⟨h.g1, h.g2, h.q1.mono (by omega), h.s1, h.s2, h.s3, h.gb, h.st.mono (by omega), fun i => ⟨(h.t1 i).1, by have := (h.t1 i).2; omega⟩⟩
theorem JAt.mono {n' : Nat} (h : JAt w p S n) (hn : n ≤ n') : JAt w p S n' :=
  ⟨h.c0, h.c1, h.c2, h.c3, h.c4, h.c5, h.c6, h.lt, h.ql, h.qu, h.cu.mono hn, h.su.mono hn, h.te.mono hn, h.nd, h.ok.mono hn⟩
theorem JB.ne (hd : p.all.Nodup) : p.j ≠ p.q ∧ p.j ≠ p.b ∧ p.j ≠ p.m ∧ p.j ≠ p.t ∧ p.q ≠ p.b ∧ p.q ≠ p.m ∧ p.q ≠ p.t ∧ p.c ≠ p.q ∧ p.c ≠ p.b ∧ p.c ≠ p.m ∧ p.c ≠ p.t ∧ p.b ≠ p.m ∧ p.b ≠ p.t ∧ p.k ≠ p.q ∧ p.k ≠ p.b ∧ p.k ≠ p.m ∧ p.k ≠ p.t ∧ p.m ≠ p.t := by
  simp [JB.all] at hd
  obtain ⟨⟨a1, a2, a3, a4, a5, a6⟩, ⟨b1, b2, b3, b4, b5⟩, ⟨c1, c2, c3, c4⟩, ⟨d1, d2, d3⟩, ⟨e1, e2⟩, f1⟩ := hd
  exact ⟨a1, a3, a5, a6, b2, b4, b5, fun e => b1 e.symm, c1, c3, c4, d2, d3, fun e => b3 e.symm, fun e => d1 e.symm, e1, e2, f1⟩
theorem JAt.quar {Q' : Q.QuarS} {n' : Nat} (h : JAt w p S n) (hq : Q.QuarAt w' p.q Q') (hg : w.grownBy w' (some p.q)) (hn : n ≤ n') (ok : Q.QuarOK Q' n') : JAt w' p { S with Q := Q' } n' := by
  obtain ⟨n1, n2, n3, n4, n5, n6, n7, n8, n9, n10, n11, n12, n13, n14, n15, n16, n17, n18⟩ := JB.ne h.nd
  obtain ⟨a0, a1, a2, a3, a4, a5, a6⟩ := h.cells (hg.block p.j h.lt (by simpa using n1))
  have hk := h.ok.mono hn
  exact ⟨a0, a1, a2, a3, a4, a5, a6, Nat.lt_of_lt_of_le h.lt hg.size, Nat.lt_of_lt_of_le h.ql hg.size, hq, (h.cu.kept hg (by simpa using n8) (by simpa using n5.symm)).mono hn,
    (h.su.kept hg (by simpa using n14) (by simpa using n6.symm)).mono hn, (h.te.kept hg (by simpa using n7.symm)).mono hn, h.nd, ⟨hk.g1, hk.g2, ok, hk.s1, hk.s2, hk.s3, hk.gb, hk.st, hk.t1⟩⟩
theorem JAt.cus {G' : Int → Int → Pr} {n' : Nat} (h : JAt w p S n) (hq : CuAt w' p.c p.b n' S.slack S.most G') (hg : w.grownBy w' (some p.b)) (hn : n ≤ n') (ok : GB G') : JAt w' p { S with G := G' } n' := by
  obtain ⟨n1, n2, n3, n4, n5, n6, n7, n8, n9, n10, n11, n12, n13, n14, n15, n16, n17, n18⟩ := JB.ne h.nd
  obtain ⟨a0, a1, a2, a3, a4, a5, a6⟩ := h.cells (hg.block p.j h.lt (by simpa using n2))
  have hk := h.ok.mono hn
  exact ⟨a0, a1, a2, a3, a4, a5, a6, Nat.lt_of_lt_of_le h.lt hg.size, Nat.lt_of_lt_of_le h.ql hg.size, h.qu.kept hg (by simpa using n5), hq,
    (h.su.kept hg (by simpa using n15) (by simpa using n12.symm)).mono hn, (h.te.kept hg (by simpa using n13.symm)).mono hn, h.nd, ⟨hk.g1, hk.g2, hk.q1, hk.s1, hk.s2, hk.s3, ok, hk.st, hk.t1⟩⟩
theorem JAt.stu {F' : Int → Option StO} {n' : Nat} (h : JAt w p S n) (hq : StAt w' p.k p.m n' S.same S.rate F') (hg : w.grownBy w' (some p.m)) (hn : n ≤ n') (ok : StOK S.same S.rate F' n') : JAt w' p { S with F := F' } n' := by
  obtain ⟨n1, n2, n3, n4, n5, n6, n7, n8, n9, n10, n11, n12, n13, n14, n15, n16, n17, n18⟩ := JB.ne h.nd
  obtain ⟨a0, a1, a2, a3, a4, a5, a6⟩ := h.cells (hg.block p.j h.lt (by simpa using n3))
  have hk := h.ok.mono hn
  exact ⟨a0, a1, a2, a3, a4, a5, a6, Nat.lt_of_lt_of_le h.lt hg.size, Nat.lt_of_lt_of_le h.ql hg.size, h.qu.kept hg (by simpa using n6), (h.cu.kept hg (by simpa using n10) (by simpa using n12)).mono hn,
    hq, (h.te.kept hg (by simpa using n18.symm)).mono hn, h.nd, ⟨hk.g1, hk.g2, hk.q1, hk.s1, hk.s2, hk.s3, hk.gb, ok, hk.t1⟩⟩
theorem JAt.tol {T' : Int → Int} {n' : Nat} (h : JAt w p S n) (hq : TabT w' p.t n' T') (hg : w.grownBy w' (some p.t)) (hn : n ≤ n') (ok : ∀ i, 0 ≤ T' i ∧ T' i ≤ n') : JAt w' p { S with T := T' } n' := by
  obtain ⟨n1, n2, n3, n4, n5, n6, n7, n8, n9, n10, n11, n12, n13, n14, n15, n16, n17, n18⟩ := JB.ne h.nd
  obtain ⟨a0, a1, a2, a3, a4, a5, a6⟩ := h.cells (hg.block p.j h.lt (by simpa using n4))
  have hk := h.ok.mono hn
  exact ⟨a0, a1, a2, a3, a4, a5, a6, Nat.lt_of_lt_of_le h.lt hg.size, Nat.lt_of_lt_of_le h.ql hg.size, h.qu.kept hg (by simpa using n7), (h.cu.kept hg (by simpa using n11) (by simpa using n13)).mono hn,
    (h.su.kept hg (by simpa using n17) (by simpa using n18)).mono hn, hq, h.nd, ⟨hk.g1, hk.g2, hk.q1, hk.s1, hk.s2, hk.s3, hk.gb, hk.st, ok⟩⟩
end
/-- The world grew, and of what was there only the judge's own blocks have changed. -/
structure FrJ (w w' : World) (p : JB) : Prop where
  os : w'.os = w.os
  tape : w'.tape = w.tape
  output : w'.output = w.output
  size : w.heap.size ≤ w'.heap.size
  block : ∀ i, i < w.heap.size → i ∉ p.all → w'.heap[i]? = w.heap[i]?
theorem FrJ.refl (w : World) (p : JB) : FrJ w w p := ⟨rfl, rfl, rfl, Nat.le_refl _, fun _ _ _ => rfl⟩
theorem FrJ.trans {a b c : World} {p : JB} (h : FrJ a b p) (k : FrJ b c p) : FrJ a c p :=
  ⟨k.os.trans h.os, k.tape.trans h.tape, k.output.trans h.output, Nat.le_trans h.size k.size, fun i hi hn => (k.block i (Nat.lt_of_lt_of_le hi h.size) hn).trans (h.block i hi hn)⟩
theorem FrJ.gr {a b : World} {p : JB} {row : Option Nat} (h : a.grownBy b row) (hr : ∀ r, row = some r → r ∈ p.all ∨ a.heap.size ≤ r) : FrJ a b p :=
  ⟨h.os, h.tape, h.output, h.size, fun i hi hn => h.block i hi (by
    intro e
    rcases hr i e.symm with h1 | h1
    · exact hn h1
    · omega)⟩
theorem FrJ.below {a b : World} {p : JB} (h : Below a.heap.size a b) : FrJ a b p := FrJ.gr (gr_below none h) (fun _ e => by cases e)
theorem TabC.same {w w' : World} {b n : Nat} {g : Int → Int → Pr} (h : TabC w b n g) (hb : w'.heap[b]? = w.heap[b]?) : TabC w' b n g := by
  obtain ⟨D, ⟨es, clock, h1, h2⟩, h3⟩ := h
  exact ⟨D, ⟨es, clock, by rw [hb]; exact h1, h2⟩, h3⟩
theorem TabT.same {w w' : World} {b n : Nat} {f : Int → Int} (h : TabT w b n f) (hb : w'.heap[b]? = w.heap[b]?) : TabT w' b n f := by
  obtain ⟨D, ⟨es, clock, h1, h2⟩, h3⟩ := h
  exact ⟨D, ⟨es, clock, by rw [hb]; exact h1, h2⟩, h3⟩
theorem cell_blk {w w' : World} {b i : Nat} {v : Value} (h : w.cell? ⟨b, i, none⟩ = some v) (hb : w'.heap[b]? = w.heap[b]?) : w'.cell? ⟨b, i, none⟩ = some v := by
  rw [World.cell?_of_block (a := ⟨b, i, none⟩) hb]; exact h
theorem CuAt.blk {w w' : World} {c b n : Nat} {slack most : Int} {g : Int → Int → Pr} (h : CuAt w c b n slack most g) (hs : w.heap.size ≤ w'.heap.size) (h1 : w'.heap[c]? = w.heap[c]?) (h2 : w'.heap[b]? = w.heap[b]?) : CuAt w' c b n slack most g :=
  ⟨cell_blk h.c0 h1, cell_blk h.c1 h1, cell_blk h.c2 h1, Nat.lt_of_lt_of_le h.lt hs, h.ne, h.tab.same h2⟩
theorem StAt.blk {w w' : World} {c b n : Nat} {same rate : Int} {f : Int → Option StO} (h : StAt w c b n same rate f) (hs : w.heap.size ≤ w'.heap.size) (h1 : w'.heap[c]? = w.heap[c]?) (h2 : w'.heap[b]? = w.heap[b]?) : StAt w' c b n same rate f :=
  ⟨cell_blk h.c0 h1, cell_blk h.c1 h1, cell_blk h.c2 h1, Nat.lt_of_lt_of_le h.lt hs, h.ne, h.tab.same h2⟩
theorem Cells.blk {w w' : World} {c n : Nat} {vs : Nat → Value} (h : Cells w c n vs) (hs : w.heap.size ≤ w'.heap.size) (h1 : w'.heap[c]? = w.heap[c]?) : Cells w' c n vs :=
  ⟨Nat.lt_of_lt_of_le h.lt hs, fun i hi => cell_blk (h.at_ i hi) h1, fun i => by rw [World.frozen?_of_block (a := ⟨c, i, none⟩) h1]; exact h.free i⟩
theorem JAt.frame {w w' : World} {p q : JB} {S : JS} {n : Nat} (h : JAt w p S n) (hf : FrJ w w' q) (hd : ∀ x ∈ p.all, x ∉ q.all) : JAt w' p S n := by
  have hb : ∀ x ∈ p.all, w'.heap[x]? = w.heap[x]? := fun x hx => hf.block x (h.lts x hx) (hd x hx)
  obtain ⟨a0, a1, a2, a3, a4, a5, a6⟩ := h.cells (hb p.j (by simp [JB.all]))
  exact ⟨a0, a1, a2, a3, a4, a5, a6, Nat.lt_of_lt_of_le h.lt hf.size, Nat.lt_of_lt_of_le h.ql hf.size, Cells.blk h.qu hf.size (hb _ (by simp [JB.all])), h.cu.blk hf.size (hb _ (by simp [JB.all])) (hb _ (by simp [JB.all])),
    h.su.blk hf.size (hb _ (by simp [JB.all])) (hb _ (by simp [JB.all])), h.te.same (hb _ (by simp [JB.all])), h.nd, h.ok⟩

/-! ### what a reading does -/
structure Rd where
  ax : Int
  tk : Int
  ag : Int
  s0 : Int
  s1 : Int
  s2 : Int
  o0 : Int
  o1 : Int
  o2 : Int
structure Rd.OK (x : Rd) : Prop where
  ax : I64 x.ax
  tk : I64 x.tk
  ag : I64 x.ag
  s0 : I64 x.s0
  s1 : I64 x.s1
  s2 : I64 x.s2
  o0 : I64 x.o0
  o1 : I64 x.o1
  o2 : I64 x.o2
def Rd.cs (x : Rd) : List Value := [.int .i64 x.ax, .int .i64 x.tk, .int .i64 x.ag, .int .i64 x.s0, .int .i64 x.s1, .int .i64 x.s2, .int .i64 x.o0, .int .i64 x.o1, .int .i64 x.o2]
def Rd.of (x : Rd) (k : Nat) : Int := if k = 0 then x.o0 else if k = 1 then x.o1 else if k = 2 then x.o2 else 0
theorem Rd.OK.of {x : Rd} (h : x.OK) (k : Nat) : I64 (x.of k) := by
  unfold Rd.of
  split
  · exact h.o0
  · split
    · exact h.o1
    · split
      · exact h.o2
      · exact ⟨by omega, by omega⟩
/-- Without what lies behind its axes. -/
def Rd.cut (x : Rd) : Rd := { x with s1 := if x.ax < 2 then 0 else x.s1, s2 := if x.ax < 3 then 0 else x.s2 }
/-- The sums behind the first n axes. -/
def drG (slack : Int) (G : Int → Int → Pr) (s : Int) (x : Rd) : Nat → Int → Int → Pr
  | 0 => G
  | k + 1 => updC (drG slack G s x k) s k (stepP slack (drG slack G s x k s k) (x.of k))
def drB (slack most : Int) (G : Int → Int → Pr) (s : Int) (x : Rd) : Nat → Bool
  | 0 => false
  | k + 1 => drB slack most G s x k || decide (most < (stepP slack (drG slack G s x k s k) (x.of k)).up ∨ most < (stepP slack (drG slack G s x k s k) (x.of k)).dn)
theorem clipV_in (x : Int) : I64 (clipV x) := by unfold clipV I64; omega
theorem stepP_in (slack : Int) (m : Pr) (r : Int) : I64 (stepP slack m r).up ∧ I64 (stepP slack m r).dn := by
  have h1 := clipV_in (m.up + r - slack)
  have h2 := clipV_in (m.dn + (-r) - slack)
  unfold stepP stepUp stepDn I64 at *
  dsimp only
  omega
theorem GB.upd {G : Int → Int → Pr} (h : GB G) (s k : Int) {m : Pr} (hm : I64 m.up ∧ I64 m.dn) : GB (updC G s k m) := by
  intro i j
  unfold updC
  split
  · exact hm
  · exact h i j
theorem GB.dr {G : Int → Int → Pr} (h : GB G) (slack s : Int) (x : Rd) : ∀ n, GB (drG slack G s x n)
  | 0 => h
  | n + 1 => (GB.dr h slack s x n).upd s n (stepP_in _ _ _)
def clrS (G : Int → Int → Pr) (s : Int) : Int → Int → Pr := fun i j => if i = s then Pr.zero else G i j
theorem GB.clr {G : Int → Int → Pr} (h : GB G) (s : Int) : GB (clrS G s) := by
  intro i j
  unfold clrS
  split
  · exact ⟨⟨by simp [Pr.zero], by simp [Pr.zero]⟩, ⟨by simp [Pr.zero], by simp [Pr.zero]⟩⟩
  · exact h i j
/-- What look does with a reading of one to three axes: the answer, and the judge behind it. -/
def lookX (S : JS) (s : Int) (x : Rd) : Int × JS :=
  if tkE S.F s x.tk ≠ 0 then (2, S) else
  if tkFl S.same S.rate S.F s x.s0 x.s1 x.s2 x.tk ≠ 0 then (261, { S with F := tkF S.F s x.s0 x.s1 x.s2 x.tk, Q := Q.hapS S.Q s x.tk 2 }) else
  if far3 (G.limV S.o S.g S.m x.ag) x.ax.toNat x.of = true then (260, { S with F := tkF S.F s x.s0 x.s1 x.s2 x.tk, Q := Q.hapS S.Q s x.tk 2 }) else
  if drB S.slack S.most S.G s x x.ax.toNat = true then (262, { S with F := tkF S.F s x.s0 x.s1 x.s2 x.tk, Q := Q.hapS S.Q s x.tk 3, G := clrS (drG S.slack S.G s x x.ax.toNat) s }) else
  (if (Q.srcB s && decide ((Q.qlookO (Q.hapS S.Q s x.tk 1) s).st < 2)) = true then 0 else 262, { S with F := tkF S.F s x.s0 x.s1 x.s2 x.tk, Q := Q.hapS S.Q s x.tk 1, G := drG S.slack S.G s x x.ax.toNat })
def lookJ (S : JS) (s : Int) (x : Rd) : Int × JS := if x.ax < 1 ∨ 3 < x.ax then (2, S) else lookX S s x.cut
theorem lookJ_in {S : JS} {s : Int} {x : Rd} (h1 : 1 ≤ x.ax) (h3 : x.ax ≤ 3) : lookJ S s x = lookX S s x.cut := by
  unfold lookJ
  rw [if_neg (by omega)]
theorem lookX_e {S : JS} {s : Int} {x : Rd} (h : tkE S.F s x.tk = 2) : lookX S s x = (2, S) := by
  unfold lookX
  rw [if_pos (by omega)]
theorem lookX_s {S : JS} {s : Int} {x : Rd} (h : tkE S.F s x.tk = 0) (hf : tkFl S.same S.rate S.F s x.s0 x.s1 x.s2 x.tk ≠ 0) :
    lookX S s x = (261, { S with F := tkF S.F s x.s0 x.s1 x.s2 x.tk, Q := Q.hapS S.Q s x.tk 2 }) := by
  unfold lookX
  rw [if_neg (by omega), if_pos hf]
theorem lookX_f {S : JS} {s : Int} {x : Rd} (h : tkE S.F s x.tk = 0) (hf : tkFl S.same S.rate S.F s x.s0 x.s1 x.s2 x.tk = 0) (hg : far3 (G.limV S.o S.g S.m x.ag) x.ax.toNat x.of = true) :
    lookX S s x = (260, { S with F := tkF S.F s x.s0 x.s1 x.s2 x.tk, Q := Q.hapS S.Q s x.tk 2 }) := by
  unfold lookX
  rw [if_neg (by omega), if_neg (by omega), if_pos hg]
theorem lookX_d {S : JS} {s : Int} {x : Rd} (h : tkE S.F s x.tk = 0) (hf : tkFl S.same S.rate S.F s x.s0 x.s1 x.s2 x.tk = 0) (hg : far3 (G.limV S.o S.g S.m x.ag) x.ax.toNat x.of = false) (hd : drB S.slack S.most S.G s x x.ax.toNat = true) :
    lookX S s x = (262, { S with F := tkF S.F s x.s0 x.s1 x.s2 x.tk, Q := Q.hapS S.Q s x.tk 3, G := clrS (drG S.slack S.G s x x.ax.toNat) s }) := by
  unfold lookX
  rw [if_neg (by omega), if_neg (by omega), if_neg (by simp [hg]), if_pos hd]
theorem lookX_g {S : JS} {s : Int} {x : Rd} {B : Bool} (h : tkE S.F s x.tk = 0) (hf : tkFl S.same S.rate S.F s x.s0 x.s1 x.s2 x.tk = 0) (hg : far3 (G.limV S.o S.g S.m x.ag) x.ax.toNat x.of = false) (hd : drB S.slack S.most S.G s x x.ax.toNat = false)
    (hb : (Q.srcB s && decide ((Q.qlookO (Q.hapS S.Q s x.tk 1) s).st < 2)) = B) :
    lookX S s x = (if B = true then 0 else 262, { S with F := tkF S.F s x.s0 x.s1 x.s2 x.tk, Q := Q.hapS S.Q s x.tk 1, G := drG S.slack S.G s x x.ax.toNat }) := by
  unfold lookX
  rw [if_neg (by omega), if_neg (by omega), if_neg (by simp [hg]), if_neg (by simp [hd]), hb]
end Go.Proofs.Ytihalkpcddnikaa
