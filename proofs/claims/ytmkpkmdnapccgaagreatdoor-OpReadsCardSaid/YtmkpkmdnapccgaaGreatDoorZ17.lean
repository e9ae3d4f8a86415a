/-
  What goes over ops, in memory; what a form does with it.
-/
import Derived.Test.YtmkpkmdnapccgaaGreatDoorZ14
import Derived.Test.YtmkpkmdnapccgaaGreatDoorZ16

set_option maxRecDepth 100000
set_option maxHeartbeats 6400000
namespace Go.Proofs.YtmkpkmdnapccgaaGreatDoor
open Go Go.Sh Go.RowKit

def noneE : PanicEntry := { v := .iface 129 (.agg #[]), recovered := false }
def NoneCh (ch : List PanicEntry) : Prop := ∃ rest, ch = noneE :: rest ∧ ∀ e ∈ rest, e.goexit = false
theorem noneCh1 : NoneCh [noneE] := ⟨[], rfl, by simp⟩
theorem NoneCh.app {a b : List PanicEntry} (h : NoneCh a) (k : NoneCh b) : NoneCh (a ++ b) := by
  obtain ⟨r, rfl, hr⟩ := h
  obtain ⟨q, rfl, hq⟩ := k
  refine ⟨r ++ noneE :: q, rfl, fun e he => ?_⟩
  rcases List.mem_append.1 he with he | he
  · exact hr e he
  · rcases List.mem_cons.1 he with rfl | he
    · rfl
    · exact hq e he
abbrev unitV : Value := .tuple #[]
def strs (l : List Bs) : List Value := l.map fun s => .string ⟨s.toArray⟩
def lim : Nat := 1000000000000
structure Coder {σ : Type} (c : PC σ) (ct : TypeId) (cp : Value) extends CBase c where
  pre : List Bs → Int → Prop
  nc : ∀ {K : Prop}, K → doNC Tryz.prog (.iface ct cp) K
  ncw : ∀ {K : Prop}, K → doNC Tryz.prog (.func (.method "joinery/op.word") #[.iface ct cp] #[]) K
  ta : ∃ p1 b1 p2 b2, (b1 || b2) = c.words ∧ (∀ (w : World) (S : Value → Prop), S (.tuple #[.pointer p1, .bool b1]) → doTA Tryz.prog (.iface ct cp) 97 61 true w S) ∧
    ∀ (w : World) (S : Value → Prop), S (.tuple #[.pointer p2, .bool b2]) → doTA Tryz.prog (.iface ct cp) 97 85 true w S
  num : ∀ {w : World} {s : σ} {b i : Nat} {cs : Array Value} {t : TypeId} {v : Int} {R : EW}, I w s → len s ≤ lim → ¬ own w b → Blk w b cs t → cs[i]? = some (.int .i64 v) → In v →
    (∀ v' s' w', c.num v s = some (v', s') → I w' s' → Blk w' b (cs.setIfInBounds i (.int .i64 v')) t → Chg own (· = b) w w' → R (.returned unitV) w') →
    (∀ ch u s' w', c.num v s = none → NoneCh ch → len s' ≤ len s + grow → I w' s' → Blk w' b (cs.setIfInBounds i (.int .i64 u)) t → Chg own (· = b) w w' → R (.panicked ch) w') →
    doGo Tryz.prog (.fn (.method "joinery/op.num") #[]) #[.iface ct cp, .pointer (some ⟨b, i, none⟩)] w R
  word : ∀ {w : World} {s : σ} {b i : Nat} {cs : Array Value} {t : TypeId} {v : Int} {names : List Bs} {q : OA} {n cap : Nat} {R : EW}, I w s → len s ≤ lim → ¬ own w b → Blk w b cs t → cs[i]? = some (.int .u8 v) → 0 ≤ v ∧ v < 256 →
    Cs w q (strs names) → names.length = n → n ≤ cap → pre names v →
    (∀ v' s' w', c.word names v s = some (v', s') → I w' s' → Blk w' b (cs.setIfInBounds i (.int .u8 v')) t → Chg own (· = b) w w' → R (.returned unitV) w') →
    (∀ ch u s' w', c.word names v s = none → NoneCh ch → len s' ≤ len s + grow → I w' s' → Blk w' b (cs.setIfInBounds i (.int .u8 u)) t → Chg own (· = b) w w' → R (.panicked ch) w') →
    doGo Tryz.prog (.fn (.method "joinery/op.word") #[]) #[.iface ct cp, .pointer (some ⟨b, i, none⟩), .slice q n cap] w R
  flag : ∀ {w : World} {s : σ} {b i : Nat} {cs : Array Value} {t : TypeId} {v : Bool} {R : EW}, I w s → len s ≤ lim → ¬ own w b → Blk w b cs t → cs[i]? = some (.bool v) →
    (∀ v' s' w', c.flag v s = some (v', s') → I w' s' → Blk w' b (cs.setIfInBounds i (.bool v')) t → Chg own (· = b) w w' → R (.returned unitV) w') →
    (∀ ch u s' w', c.flag v s = none → NoneCh ch → len s' ≤ len s + grow → I w' s' → Blk w' b (cs.setIfInBounds i (.bool u)) t → Chg own (· = b) w w' → R (.panicked ch) w') →
    doGo Tryz.prog (.fn (.method "joinery/op.flag") #[]) #[.iface ct cp, .pointer (some ⟨b, i, none⟩)] w R
  flagD : c.words = false → ∀ {w : World} {s : σ} {b i : Nat} {cs : Array Value} {t : TypeId} {v : Bool} {u : FrameMode} {K : FrameMode → World → Prop}, u ≠ .run → I w s → len s ≤ lim → ¬ own w b → Blk w b cs t → cs[i]? = some (.bool v) →
    (∀ v' s' w', c.flag v s = some (v', s') → I w' s' → Blk w' b (cs.setIfInBounds i (.bool v')) t → Chg own (· = b) w w' → K (settle u) w') →
    (∀ ch u' s' w', c.flag v s = none → NoneCh ch → len s' ≤ len s + grow → I w' s' → Blk w' b (cs.setIfInBounds i (.bool u')) t → Chg own (· = b) w w' → K (raised u ch) w') →
    doDf Tryz.prog (.fn (.method "joinery/op.flag") #[]) #[.iface ct cp, .pointer (some ⟨b, i, none⟩)] u w K
  many : ∀ {w : World} {s : σ} {b : Nat} {t : TypeId} {v : Nat} {R : EW}, I w s → len s ≤ lim → ¬ own w b → Blk w b #[.int .i64 (v : Int)] t → v ≤ 1000000 →
    (∀ v' s' w', c.many v s = some (v', s') → I w' s' → Blk w' b #[.int .i64 ((v' : Nat) : Int)] t → Chg own (· = b) w w' → R (.returned unitV) w') →
    (∀ ch s' w', c.many v s = none → NoneCh ch → len s' ≤ len s + grow → I w' s' → Chg own (· = b) w w' → R (.panicked ch) w') →
    doGo Tryz.prog (.fn (.method "joinery/op.many") #[]) #[.iface ct cp, .pointer (some ⟨b, 0, none⟩)] w R
  pair : ∀ {w : World} {s : σ} {b : Nat} {t : TypeId} {v : Int × Int} {R : EW}, I w s → len s ≤ lim → ¬ own w b → Blk w b #[.int .i64 v.1, .int .i64 v.2] t → In v.1 ∧ In v.2 →
    (∀ v' s' w', c.pair v s = some (v', s') → I w' s' → Blk w' b #[.int .i64 v'.1, .int .i64 v'.2] t → Chg own (· = b) w w' → R (.returned unitV) w') →
    (∀ ch s' w', c.pair v s = none → NoneCh ch → len s' ≤ len s + grow → I w' s' → Chg own (· = b) w w' → R (.panicked ch) w') →
    doGo Tryz.prog (.fn (.method "joinery/op.pair") #[]) #[.iface ct cp, .pointer (some ⟨b, 0, none⟩)] w R
def opCells (x : POp) (pv kv : Value) : Array Value :=
  #[.int .u8 x.op, .int .i64 x.a, .int .i64 x.b, .int .i64 x.key, .int .i64 x.val, .int .i64 x.lo, .int .i64 x.hi, .int .i64 x.n, .int .u8 x.pol, .int .u8 x.pk, .int .i64 x.pa, .int .i64 x.pb, .bool x.pnot, pv, kv]
def OpAt (w : World) (b : Nat) (x : POp) (pv kv : Value) : Prop := Blk w b (opCells x pv kv) 37
section
variable {σ : Type} {c : PC σ} {ct : TypeId} {cp : Value} (C : Coder c ct cp)
theorem c_plain {fp : OA} {w : World} {s : σ} {b i : Nat} {cs : Array Value} {t : TypeId} {v : Int} {R : EW} (hI : C.I w s) (hl : C.len s ≤ lim) (ho : ¬ C.own w b) (hb : Blk w b cs t) (hc : cs[i]? = some (.int .i64 v)) (hv : In v)
    (h : ∀ v' s' w', c.num v s = some (v', s') → C.I w' s' → Blk w' b (cs.setIfInBounds i (.int .i64 v')) t → Chg C.own (· = b) w w' → R (.returned unitV) w')
    (hn : ∀ ch s' w', c.num v s = none → NoneCh ch → C.len s' ≤ C.len s + C.grow → C.I w' s' → Blk w' b cs t → Chg C.own (· = b) w w' → R (.panicked ch) w') :
    Calls Tryz.prog 105 #[.agg #[.pointer fp, .iface ct cp], .pointer (some ⟨b, i, none⟩)] w R := by
  refine sh105_ok _ _ _ ?_
  unfold sh105
  refine ⟨?_⟩
  have e1 := ext_alloc w (.cells #[.pointer fp, .iface ct cp] 103)
  have hf1 := blk_alloc w #[.pointer fp, .iface ct cp] 103
  have z1 : (w.alloc (.cells #[.pointer fp, .iface ct cp] 103)).heap.size = w.heap.size + 1 := by simp
  generalize w.alloc (.cells #[.pointer fp, .iface ct cp] 103) = w1 at e1 hf1 z1 ⊢
  refine ⟨_, rfl, v, (hb.ext e1).cell rfl hc, ⟨?_⟩⟩
  refine do_st (blk_alloc w1 _ _) (i := 0) rfl (by simp) fun w2 h2 g2 => ?_
  have e2 : Ext w w2 := (e1.alloc _).st g2 e1.size
  have z2 : ¬ C.own w2 w1.heap.size := fun h => C.new' hI e1.size (((C.ext hI e2).2 _).1 h)
  have hf2 : Blk w2 w.heap.size #[.pointer fp, .iface ct cp] 103 := (hf1.ext (ext_alloc w1 _)).grown g2 (ne_some (by omega))
  refine ⟨_, hf2.cell (i := 1) rfl rfl, C.num (C.ext hI e2).1 hl z2 h2 rfl hv (fun v' s' w3 hr hI3 hb3 c3 => retS_ret ⟨rfl, ?_⟩) fun ch u s' w3 hr hch hls hI3 hb3 c3 => ?_⟩
  · refine ⟨v', hb3.cell (i := 0) rfl rfl, _, rfl, ?_⟩
    have hne : b ≠ w1.heap.size := fun e => by have := hb.lt; have := e1.size; omega
    have ho2 : ¬ C.own w2 b := fun h => ho (((C.ext hI e2).2 _).1 h)
    have hb3' : Blk w3 b cs t := c3.blk (hb.ext e2) ho2 hne
    have ho3 : ¬ C.own w3 b := c3.out b (hb.ext e2).lt ho2
    refine do_st hb3' (i := i) (by rw [add_zero']) (Array.getElem?_eq_some_iff.1 hc).1 fun w4 h4 g4 => ?_
    have k1 : Chg C.own (SF w.heap.size (· = b)) w w2 := C.chg_ext hI e2
    have k2 : Chg C.own (SF w.heap.size (· = b)) w2 w3 := c3.mono fun k hk => .inr (by have := e1.size; omega)
    have k3 : Chg C.own (SF w.heap.size (· = b)) w3 w4 := C.chg_st hI3 g4 ho3 fun _ => .inl rfl
    exact h v' s' w4 hr (C.st hI3 g4 ho3).1 h4 ((k1.trans k2).trans k3).fresh
  · have hne : b ≠ w1.heap.size := fun e => by have := hb.lt; have := e1.size; omega
    have ho2 : ¬ C.own w2 b := fun h => ho (((C.ext hI e2).2 _).1 h)
    have k1 : Chg C.own (SF w.heap.size (· = b)) w w2 := C.chg_ext hI e2
    have k2 : Chg C.own (SF w.heap.size (· = b)) w2 w3 := c3.mono fun k hk => .inr (by have := e1.size; omega)
    exact hn ch s' w3 hr hch hls hI3 (c3.blk (hb.ext e2) ho2 hne) (k1.trans k2).fresh
end
end Go.Proofs.YtmkpkmdnapccgaaGreatDoor

namespace Go.Proofs.YtmkpkmdnapccgaaGreatDoor
open Go Go.Sh Go.RowKit

def RowAt (own : World → Nat → Prop) (xb : Nat) (w : World) (v : Value) (n : Nat) (cells : List Value) : Prop :=
  ∃ p cap, v = .slice p n cap ∧ n ≤ cap ∧ Cs w p cells ∧ ∀ a, p = some a → cells ≠ [] → ¬ own w a.block ∧ a.block ≠ xb ∧ a.block < w.heap.size
theorem RowAt.chg {own : World → Nat → Prop} {xb : Nat} {w w' : World} {v : Value} {n : Nat} {cells : List Value} (h : RowAt own xb w v n cells) (c : Chg own (· = xb) w w') : RowAt own xb w' v n cells := by
  obtain ⟨p, cap, rfl, hn, hc, ha⟩ := h
  refine ⟨p, cap, rfl, hn, fun i u hu => ?_, fun a e hz => ?_⟩
  · obtain ⟨a, e, hcell⟩ := hc i u hu
    obtain ⟨h1, h2, _⟩ := ha a e (by rintro rfl; simp at hu)
    exact ⟨a, e, c.cell hcell (by rw [add_block]; exact h1) (by rw [add_block]; exact h2)⟩
  · obtain ⟨h1, h2, h3⟩ := ha a e hz
    exact ⟨c.out _ h3 h1, h2, Nat.lt_of_lt_of_le h3 c.size⟩
theorem RowAt.ext {own : World → Nat → Prop} {xb : Nat} {w w' : World} {v : Value} {n : Nat} {cells : List Value} (h : RowAt own xb w v n cells) (e : Ext w w') (ho : ∀ k, own w' k → own w k) : RowAt own xb w' v n cells := by
  obtain ⟨p, cap, rfl, hn, hc, ha⟩ := h
  exact ⟨p, cap, rfl, hn, hc.ext e, fun a ea hz => ⟨fun hk => (ha a ea hz).1 (ho _ hk), (ha a ea hz).2.1, Nat.lt_of_lt_of_le (ha a ea hz).2.2 e.size⟩⟩
structure RowsAt (own : World → Nat → Prop) (xb : Nat) (w : World) (x : POp) (pv kv : Value) : Prop where
  p : RowAt own xb w pv x.pairs.length (prs x.pairs)
  k : RowAt own xb w kv x.keys.length (ints x.keys)
theorem RowsAt.chg {own : World → Nat → Prop} {xb : Nat} {w w' : World} {x : POp} {pv kv : Value} (h : RowsAt own xb w x pv kv) (c : Chg own (· = xb) w w') : RowsAt own xb w' x pv kv := ⟨h.p.chg c, h.k.chg c⟩
def Some15 (w : World) (b : Nat) : Prop := ∃ x p n cap q m cap', OpAt w b x (.slice p n cap) (.slice q m cap')
theorem RowsAt.some {own : World → Nat → Prop} {xb : Nat} {w : World} {x : POp} {pv kv : Value} (h : RowsAt own xb w x pv kv) {w' : World} {y : POp} (ha : OpAt w' xb y pv kv) : Some15 w' xb := by
  obtain ⟨p, cap, rfl, _⟩ := h.p
  obtain ⟨q, cap', rfl, _⟩ := h.k
  exact ⟨y, p, _, cap, q, _, cap', ha⟩
section
variable {σ : Type} {c : PC σ} {ct : TypeId} {cp : Value} (C : Coder c ct cp)
theorem c_fkey {xb : Nat} {x : POp} {pv kv : Value} {w : World} {s : σ} {R : EW} (hI : C.I w s) (hl : C.len s ≤ lim) (ho : ¬ C.own w xb) (hx : OpAt w xb x pv kv) (hin : InO x) (hr : RowsAt C.own xb w x pv kv)
    (h : ∀ x' s' w', partP c .key x s = some (x', s') → C.I w' s' → OpAt w' xb x' pv kv → RowsAt C.own xb w' x' pv kv → Chg C.own (· = xb) w w' → R (.returned unitV) w')
    (hn : ∀ ch w', partP c .key x s = none → NoneCh ch → Some15 w' xb → (∃ s', C.I w' s') → Chg C.own (· = xb) w w' → R (.panicked ch) w') :
    Calls Tryz.prog 70 #[.agg #[.pointer (some (blk xb)), .iface ct cp]] w R := by
  refine sh70_ok _ _ ?_
  unfold sh70
  refine ⟨?_⟩
  have e1 := ext_alloc w (.cells #[.pointer (some (blk xb)), .iface ct cp] 103)
  have hf1 := blk_alloc w #[.pointer (some (blk xb)), .iface ct cp] 103
  generalize w.alloc (.cells #[.pointer (some (blk xb)), .iface ct cp] 103) = w1 at e1 hf1 ⊢
  refine ⟨?_⟩
  have e2 := e1.drew
  have hf2 := hf1.ext (ext_drew w1)
  generalize w1.drew = w2 at e2 hf2 ⊢
  have hxb := hx.lt
  have ho2 : ¬ C.own w2 xb := fun h => ho (((C.ext hI e2).2 _).1 h)
  have hof : ¬ C.own w2 w.heap.size := fun h => C.new' hI (Nat.le_refl _) (((C.ext hI e2).2 _).1 h)
  have hne : w.heap.size ≠ xb := by omega
  refine ⟨fun w' => Blk w' w.heap.size #[.pointer (some (blk xb)), .iface ct cp] 103, hf2, _, fun w' h' => h'.cell (i := 1) rfl rfl, _, fun w' h' => h'.cell (i := 0) rfl rfl, _, rfl, C.nc ?_⟩
  refine C.num (b := xb) (i := 3) (C.ext hI e2).1 hl ho2 (hx.ext e2) rfl hin.key (fun v' s' w3 hv hI3 hb3 c3 => retS_ret ⟨rfl, c3.blk hf2 hof hne, ?_⟩) fun ch u s' w3 hv hch hls hI3 hb3 c3 => ?_
  · have k1 : Chg C.own (SF w.heap.size (· = xb)) w w2 := C.chg_ext hI e2
    have k : Chg C.own (· = xb) w w3 := (k1.trans (c3.mono fun _ => .inl)).fresh
    refine h { x with key := v' } s' w3 (by simp only [partP, hv]; rfl) hI3 hb3 ?_ k
    exact ⟨(hr.chg k).p, (hr.chg k).k⟩
  · have k1 : Chg C.own (SF w.heap.size (· = xb)) w w2 := C.chg_ext hI e2
    have k : Chg C.own (· = xb) w w3 := (k1.trans (c3.mono fun _ => .inl)).fresh
    exact hn ch w3 (by simp only [partP, hv]; rfl) hch (hr.some (y := { x with key := u }) hb3) ⟨_, hI3⟩ k
theorem c_fval {xb : Nat} {x : POp} {pv kv : Value} {w : World} {s : σ} {R : EW} (hI : C.I w s) (hl : C.len s ≤ lim) (ho : ¬ C.own w xb) (hx : OpAt w xb x pv kv) (hin : InO x) (hr : RowsAt C.own xb w x pv kv)
    (h : ∀ x' s' w', partP c .val x s = some (x', s') → C.I w' s' → OpAt w' xb x' pv kv → RowsAt C.own xb w' x' pv kv → Chg C.own (· = xb) w w' → R (.returned unitV) w')
    (hn : ∀ ch w', partP c .val x s = none → NoneCh ch → Some15 w' xb → (∃ s', C.I w' s') → Chg C.own (· = xb) w w' → R (.panicked ch) w') :
    Calls Tryz.prog 71 #[.agg #[.pointer (some (blk xb)), .iface ct cp]] w R := by
  refine sh71_ok _ _ ?_
  unfold sh71
  refine ⟨?_⟩
  have e1 := ext_alloc w (.cells #[.pointer (some (blk xb)), .iface ct cp] 103)
  have hf1 := blk_alloc w #[.pointer (some (blk xb)), .iface ct cp] 103
  generalize w.alloc (.cells #[.pointer (some (blk xb)), .iface ct cp] 103) = w1 at e1 hf1 ⊢
  refine ⟨?_⟩
  have e2 := e1.drew
  have hf2 := hf1.ext (ext_drew w1)
  generalize w1.drew = w2 at e2 hf2 ⊢
  have hxb := hx.lt
  have ho2 : ¬ C.own w2 xb := fun h => ho (((C.ext hI e2).2 _).1 h)
  have hof : ¬ C.own w2 w.heap.size := fun h => C.new' hI (Nat.le_refl _) (((C.ext hI e2).2 _).1 h)
  have hne : w.heap.size ≠ xb := by omega
  refine ⟨fun w' => Blk w' w.heap.size #[.pointer (some (blk xb)), .iface ct cp] 103, hf2, _, fun w' h' => h'.cell (i := 1) rfl rfl, _, fun w' h' => h'.cell (i := 0) rfl rfl, _, rfl, C.nc ?_⟩
  refine C.num (b := xb) (i := 4) (C.ext hI e2).1 hl ho2 (hx.ext e2) rfl hin.val (fun v' s' w3 hv hI3 hb3 c3 => retS_ret ⟨rfl, c3.blk hf2 hof hne, ?_⟩) fun ch u s' w3 hv hch hls hI3 hb3 c3 => ?_
  · have k1 : Chg C.own (SF w.heap.size (· = xb)) w w2 := C.chg_ext hI e2
    have k : Chg C.own (· = xb) w w3 := (k1.trans (c3.mono fun _ => .inl)).fresh
    refine h { x with val := v' } s' w3 (by simp only [partP, hv]; rfl) hI3 hb3 ?_ k
    exact ⟨(hr.chg k).p, (hr.chg k).k⟩
  · have k1 : Chg C.own (SF w.heap.size (· = xb)) w w2 := C.chg_ext hI e2
    have k : Chg C.own (· = xb) w w3 := (k1.trans (c3.mono fun _ => .inl)).fresh
    exact hn ch w3 (by simp only [partP, hv]; rfl) hch (hr.some (y := { x with val := u }) hb3) ⟨_, hI3⟩ k
theorem c_flo {xb : Nat} {x : POp} {pv kv : Value} {w : World} {s : σ} {R : EW} (hI : C.I w s) (hl : C.len s ≤ lim) (ho : ¬ C.own w xb) (hx : OpAt w xb x pv kv) (hin : InO x) (hr : RowsAt C.own xb w x pv kv)
    (h : ∀ x' s' w', partP c .lo x s = some (x', s') → C.I w' s' → OpAt w' xb x' pv kv → RowsAt C.own xb w' x' pv kv → Chg C.own (· = xb) w w' → R (.returned unitV) w')
    (hn : ∀ ch w', partP c .lo x s = none → NoneCh ch → Some15 w' xb → (∃ s', C.I w' s') → Chg C.own (· = xb) w w' → R (.panicked ch) w') :
    Calls Tryz.prog 78 #[.agg #[.pointer (some (blk xb)), .iface ct cp]] w R := by
  refine sh78_ok _ _ ?_
  unfold sh78
  refine ⟨?_⟩
  have e1 := ext_alloc w (.cells #[.pointer (some (blk xb)), .iface ct cp] 103)
  have hf1 := blk_alloc w #[.pointer (some (blk xb)), .iface ct cp] 103
  generalize w.alloc (.cells #[.pointer (some (blk xb)), .iface ct cp] 103) = w1 at e1 hf1 ⊢
  refine ⟨?_⟩
  have e2 := e1.drew
  have hf2 := hf1.ext (ext_drew w1)
  generalize w1.drew = w2 at e2 hf2 ⊢
  have hxb := hx.lt
  have ho2 : ¬ C.own w2 xb := fun h => ho (((C.ext hI e2).2 _).1 h)
  have hof : ¬ C.own w2 w.heap.size := fun h => C.new' hI (Nat.le_refl _) (((C.ext hI e2).2 _).1 h)
  have hne : w.heap.size ≠ xb := by omega
  refine ⟨fun w' => Blk w' w.heap.size #[.pointer (some (blk xb)), .iface ct cp] 103, hf2, _, fun w' h' => h'.cell (i := 1) rfl rfl, _, fun w' h' => h'.cell (i := 0) rfl rfl, _, rfl, C.nc ?_⟩
  refine C.num (b := xb) (i := 5) (C.ext hI e2).1 hl ho2 (hx.ext e2) rfl hin.lo (fun v' s' w3 hv hI3 hb3 c3 => retS_ret ⟨rfl, c3.blk hf2 hof hne, ?_⟩) fun ch u s' w3 hv hch hls hI3 hb3 c3 => ?_
  · have k1 : Chg C.own (SF w.heap.size (· = xb)) w w2 := C.chg_ext hI e2
    have k : Chg C.own (· = xb) w w3 := (k1.trans (c3.mono fun _ => .inl)).fresh
    refine h { x with lo := v' } s' w3 (by simp only [partP, hv]; rfl) hI3 hb3 ?_ k
    exact ⟨(hr.chg k).p, (hr.chg k).k⟩
  · have k1 : Chg C.own (SF w.heap.size (· = xb)) w w2 := C.chg_ext hI e2
    have k : Chg C.own (· = xb) w w3 := (k1.trans (c3.mono fun _ => .inl)).fresh
    exact hn ch w3 (by simp only [partP, hv]; rfl) hch (hr.some (y := { x with lo := u }) hb3) ⟨_, hI3⟩ k
theorem c_fhi {xb : Nat} {x : POp} {pv kv : Value} {w : World} {s : σ} {R : EW} (hI : C.I w s) (hl : C.len s ≤ lim) (ho : ¬ C.own w xb) (hx : OpAt w xb x pv kv) (hin : InO x) (hr : RowsAt C.own xb w x pv kv)
    (h : ∀ x' s' w', partP c .hi x s = some (x', s') → C.I w' s' → OpAt w' xb x' pv kv → RowsAt C.own xb w' x' pv kv → Chg C.own (· = xb) w w' → R (.returned unitV) w')
    (hn : ∀ ch w', partP c .hi x s = none → NoneCh ch → Some15 w' xb → (∃ s', C.I w' s') → Chg C.own (· = xb) w w' → R (.panicked ch) w') :
    Calls Tryz.prog 79 #[.agg #[.pointer (some (blk xb)), .iface ct cp]] w R := by
  refine sh79_ok _ _ ?_
  unfold sh79
  refine ⟨?_⟩
  have e1 := ext_alloc w (.cells #[.pointer (some (blk xb)), .iface ct cp] 103)
  have hf1 := blk_alloc w #[.pointer (some (blk xb)), .iface ct cp] 103
  generalize w.alloc (.cells #[.pointer (some (blk xb)), .iface ct cp] 103) = w1 at e1 hf1 ⊢
  refine ⟨?_⟩
  have e2 := e1.drew
  have hf2 := hf1.ext (ext_drew w1)
  generalize w1.drew = w2 at e2 hf2 ⊢
  have hxb := hx.lt
  have ho2 : ¬ C.own w2 xb := fun h => ho (((C.ext hI e2).2 _).1 h)
  have hof : ¬ C.own w2 w.heap.size := fun h => C.new' hI (Nat.le_refl _) (((C.ext hI e2).2 _).1 h)
  have hne : w.heap.size ≠ xb := by omega
  refine ⟨fun w' => Blk w' w.heap.size #[.pointer (some (blk xb)), .iface ct cp] 103, hf2, _, fun w' h' => h'.cell (i := 1) rfl rfl, _, fun w' h' => h'.cell (i := 0) rfl rfl, _, rfl, C.nc ?_⟩
  refine C.num (b := xb) (i := 6) (C.ext hI e2).1 hl ho2 (hx.ext e2) rfl hin.hi (fun v' s' w3 hv hI3 hb3 c3 => retS_ret ⟨rfl, c3.blk hf2 hof hne, ?_⟩) fun ch u s' w3 hv hch hls hI3 hb3 c3 => ?_
  · have k1 : Chg C.own (SF w.heap.size (· = xb)) w w2 := C.chg_ext hI e2
    have k : Chg C.own (· = xb) w w3 := (k1.trans (c3.mono fun _ => .inl)).fresh
    refine h { x with hi := v' } s' w3 (by simp only [partP, hv]; rfl) hI3 hb3 ?_ k
    exact ⟨(hr.chg k).p, (hr.chg k).k⟩
  · have k1 : Chg C.own (SF w.heap.size (· = xb)) w w2 := C.chg_ext hI e2
    have k : Chg C.own (· = xb) w w3 := (k1.trans (c3.mono fun _ => .inl)).fresh
    exact hn ch w3 (by simp only [partP, hv]; rfl) hch (hr.some (y := { x with hi := u }) hb3) ⟨_, hI3⟩ k
theorem c_fa {xb : Nat} {x : POp} {pv kv : Value} {w : World} {s : σ} {R : EW} (hI : C.I w s) (hl : C.len s ≤ lim) (ho : ¬ C.own w xb) (hx : OpAt w xb x pv kv) (hin : InO x) (hr : RowsAt C.own xb w x pv kv)
    (h : ∀ x' s' w', partP c .a x s = some (x', s') → C.I w' s' → OpAt w' xb x' pv kv → RowsAt C.own xb w' x' pv kv → Chg C.own (· = xb) w w' → R (.returned unitV) w')
    (hn : ∀ ch w', partP c .a x s = none → NoneCh ch → Some15 w' xb → (∃ s', C.I w' s') → Chg C.own (· = xb) w w' → R (.panicked ch) w') :
    Calls Tryz.prog 69 #[.agg #[.pointer (some (blk xb)), .iface ct cp]] w R := by
  refine sh69_ok _ _ ?_
  unfold sh69
  refine ⟨?_⟩
  have e1 := ext_alloc w (.cells #[.pointer (some (blk xb)), .iface ct cp] 103)
  have hf1 := blk_alloc w #[.pointer (some (blk xb)), .iface ct cp] 103
  generalize w.alloc (.cells #[.pointer (some (blk xb)), .iface ct cp] 103) = w1 at e1 hf1 ⊢
  refine ⟨?_⟩
  have e2 := e1.drew
  have hf2 := hf1.ext (ext_drew w1)
  generalize w1.drew = w2 at e2 hf2 ⊢
  have hxb := hx.lt
  have ho2 : ¬ C.own w2 xb := fun h => ho (((C.ext hI e2).2 _).1 h)
  have hof : ¬ C.own w2 w.heap.size := fun h => C.new' hI (Nat.le_refl _) (((C.ext hI e2).2 _).1 h)
  have hne : w.heap.size ≠ xb := by omega
  refine ⟨fun w' => Blk w' w.heap.size #[.pointer (some (blk xb)), .iface ct cp] 103, hf2, _, fun w' h' => h'.cell (i := 0) rfl rfl, _, fun w' h' => h'.cell (i := 1) rfl rfl, _, fun w' h' => h'.cell (i := 0) rfl rfl, _, rfl, do_call Tryz.call105 ?_⟩
  refine c_plain C (b := xb) (i := 1) (C.ext hI e2).1 hl ho2 (hx.ext e2) rfl hin.a (fun v' s' w3 hv hI3 hb3 c3 => retS_ret ⟨rfl, c3.blk hf2 hof hne, ?_⟩) fun ch s' w3 hv hch hls hI3 hb3 c3 => ?_
  · have k1 : Chg C.own (SF w.heap.size (· = xb)) w w2 := C.chg_ext hI e2
    have k : Chg C.own (· = xb) w w3 := (k1.trans (c3.mono fun _ => .inl)).fresh
    refine h { x with a := v' } s' w3 (by simp only [partP, hv]; rfl) hI3 hb3 ?_ k
    exact ⟨(hr.chg k).p, (hr.chg k).k⟩
  · have k1 : Chg C.own (SF w.heap.size (· = xb)) w w2 := C.chg_ext hI e2
    have k : Chg C.own (· = xb) w w3 := (k1.trans (c3.mono fun _ => .inl)).fresh
    exact hn ch w3 (by simp only [partP, hv]; rfl) hch (hr.some (y := x) hb3) ⟨_, hI3⟩ k
theorem c_fb {xb : Nat} {x : POp} {pv kv : Value} {w : World} {s : σ} {R : EW} (hI : C.I w s) (hl : C.len s ≤ lim) (ho : ¬ C.own w xb) (hx : OpAt w xb x pv kv) (hin : InO x) (hr : RowsAt C.own xb w x pv kv)
    (h : ∀ x' s' w', partP c .b x s = some (x', s') → C.I w' s' → OpAt w' xb x' pv kv → RowsAt C.own xb w' x' pv kv → Chg C.own (· = xb) w w' → R (.returned unitV) w')
    (hn : ∀ ch w', partP c .b x s = none → NoneCh ch → Some15 w' xb → (∃ s', C.I w' s') → Chg C.own (· = xb) w w' → R (.panicked ch) w') :
    Calls Tryz.prog 74 #[.agg #[.pointer (some (blk xb)), .iface ct cp]] w R := by
  refine sh74_ok _ _ ?_
  unfold sh74
  refine ⟨?_⟩
  have e1 := ext_alloc w (.cells #[.pointer (some (blk xb)), .iface ct cp] 103)
  have hf1 := blk_alloc w #[.pointer (some (blk xb)), .iface ct cp] 103
  generalize w.alloc (.cells #[.pointer (some (blk xb)), .iface ct cp] 103) = w1 at e1 hf1 ⊢
  refine ⟨?_⟩
  have e2 := e1.drew
  have hf2 := hf1.ext (ext_drew w1)
  generalize w1.drew = w2 at e2 hf2 ⊢
  have hxb := hx.lt
  have ho2 : ¬ C.own w2 xb := fun h => ho (((C.ext hI e2).2 _).1 h)
  have hof : ¬ C.own w2 w.heap.size := fun h => C.new' hI (Nat.le_refl _) (((C.ext hI e2).2 _).1 h)
  have hne : w.heap.size ≠ xb := by omega
  refine ⟨fun w' => Blk w' w.heap.size #[.pointer (some (blk xb)), .iface ct cp] 103, hf2, _, fun w' h' => h'.cell (i := 0) rfl rfl, _, fun w' h' => h'.cell (i := 1) rfl rfl, _, fun w' h' => h'.cell (i := 0) rfl rfl, _, rfl, do_call Tryz.call105 ?_⟩
  refine c_plain C (b := xb) (i := 2) (C.ext hI e2).1 hl ho2 (hx.ext e2) rfl hin.b (fun v' s' w3 hv hI3 hb3 c3 => retS_ret ⟨rfl, c3.blk hf2 hof hne, ?_⟩) fun ch s' w3 hv hch hls hI3 hb3 c3 => ?_
  · have k1 : Chg C.own (SF w.heap.size (· = xb)) w w2 := C.chg_ext hI e2
    have k : Chg C.own (· = xb) w w3 := (k1.trans (c3.mono fun _ => .inl)).fresh
    refine h { x with b := v' } s' w3 (by simp only [partP, hv]; rfl) hI3 hb3 ?_ k
    exact ⟨(hr.chg k).p, (hr.chg k).k⟩
  · have k1 : Chg C.own (SF w.heap.size (· = xb)) w w2 := C.chg_ext hI e2
    have k : Chg C.own (· = xb) w w3 := (k1.trans (c3.mono fun _ => .inl)).fresh
    exact hn ch w3 (by simp only [partP, hv]; rfl) hch (hr.some (y := x) hb3) ⟨_, hI3⟩ k
theorem c_fn {xb : Nat} {x : POp} {pv kv : Value} {w : World} {s : σ} {R : EW} (hI : C.I w s) (hl : C.len s ≤ lim) (ho : ¬ C.own w xb) (hx : OpAt w xb x pv kv) (hin : InO x) (hr : RowsAt C.own xb w x pv kv)
    (h : ∀ x' s' w', partP c .n x s = some (x', s') → C.I w' s' → OpAt w' xb x' pv kv → RowsAt C.own xb w' x' pv kv → Chg C.own (· = xb) w w' → R (.returned unitV) w')
    (hn : ∀ ch w', partP c .n x s = none → NoneCh ch → Some15 w' xb → (∃ s', C.I w' s') → Chg C.own (· = xb) w w' → R (.panicked ch) w') :
    Calls Tryz.prog 77 #[.agg #[.pointer (some (blk xb)), .iface ct cp]] w R := by
  refine sh77_ok _ _ ?_
  unfold sh77
  refine ⟨?_⟩
  have e1 := ext_alloc w (.cells #[.pointer (some (blk xb)), .iface ct cp] 103)
  have hf1 := blk_alloc w #[.pointer (some (blk xb)), .iface ct cp] 103
  generalize w.alloc (.cells #[.pointer (some (blk xb)), .iface ct cp] 103) = w1 at e1 hf1 ⊢
  refine ⟨?_⟩
  have e2 := e1.drew
  have hf2 := hf1.ext (ext_drew w1)
  generalize w1.drew = w2 at e2 hf2 ⊢
  have hxb := hx.lt
  have ho2 : ¬ C.own w2 xb := fun h => ho (((C.ext hI e2).2 _).1 h)
  have hof : ¬ C.own w2 w.heap.size := fun h => C.new' hI (Nat.le_refl _) (((C.ext hI e2).2 _).1 h)
  have hne : w.heap.size ≠ xb := by omega
  refine ⟨fun w' => Blk w' w.heap.size #[.pointer (some (blk xb)), .iface ct cp] 103, hf2, _, fun w' h' => h'.cell (i := 0) rfl rfl, _, fun w' h' => h'.cell (i := 1) rfl rfl, _, fun w' h' => h'.cell (i := 0) rfl rfl, _, rfl, do_call Tryz.call105 ?_⟩
  refine c_plain C (b := xb) (i := 7) (C.ext hI e2).1 hl ho2 (hx.ext e2) rfl hin.n (fun v' s' w3 hv hI3 hb3 c3 => retS_ret ⟨rfl, c3.blk hf2 hof hne, ?_⟩) fun ch s' w3 hv hch hls hI3 hb3 c3 => ?_
  · have k1 : Chg C.own (SF w.heap.size (· = xb)) w w2 := C.chg_ext hI e2
    have k : Chg C.own (· = xb) w w3 := (k1.trans (c3.mono fun _ => .inl)).fresh
    refine h { x with n := v' } s' w3 (by simp only [partP, hv]; rfl) hI3 hb3 ?_ k
    exact ⟨(hr.chg k).p, (hr.chg k).k⟩
  · have k1 : Chg C.own (SF w.heap.size (· = xb)) w w2 := C.chg_ext hI e2
    have k : Chg C.own (· = xb) w w3 := (k1.trans (c3.mono fun _ => .inl)).fresh
    exact hn ch w3 (by simp only [partP, hv]; rfl) hch (hr.some (y := x) hb3) ⟨_, hI3⟩ k
end
end Go.Proofs.YtmkpkmdnapccgaaGreatDoor

namespace Go.Proofs.YtmkpkmdnapccgaaGreatDoor
open Go Go.Sh Go.RowKit

section
variable {σ : Type} {c : PC σ} {ct : TypeId} {cp : Value} (C : Coder c ct cp)
theorem c_fpol {xb : Nat} {x : POp} {pv kv : Value} {w : World} {s : σ} {R : EW} (hI : C.I w s) (hl : C.len s ≤ lim) (ho : ¬ C.own w xb) (hx : OpAt w xb x pv kv) (hin : InO x) (hr : RowsAt C.own xb w x pv kv) (hp : C.pre polNames x.pol)
    (h : ∀ x' s' w', partP c .pol x s = some (x', s') → C.I w' s' → OpAt w' xb x' pv kv → RowsAt C.own xb w' x' pv kv → Chg C.own (· = xb) w w' → R (.returned unitV) w')
    (hn : ∀ ch w', partP c .pol x s = none → NoneCh ch → Some15 w' xb → (∃ s', C.I w' s') → Chg C.own (· = xb) w w' → R (.panicked ch) w') :
    Calls Tryz.prog 72 #[.agg #[.pointer (some (blk xb)), .iface ct cp]] w R := by
  refine sh72_ok _ _ ?_
  unfold sh72
  refine ⟨?_⟩
  have e1 := ext_alloc w (.cells #[.pointer (some (blk xb)), .iface ct cp] 103)
  have hf1 := blk_alloc w #[.pointer (some (blk xb)), .iface ct cp] 103
  generalize w.alloc (.cells #[.pointer (some (blk xb)), .iface ct cp] 103) = w1 at e1 hf1 ⊢
  refine ⟨?_⟩
  have e2 := e1.drew
  have hf2 := hf1.ext (ext_drew w1)
  generalize w1.drew = w2 at e2 hf2 ⊢
  have hxb := hx.lt
  refine ⟨fun w' => Blk w' w.heap.size #[.pointer (some (blk xb)), .iface ct cp] 103, hf2, _, fun w' h' => h'.cell (i := 1) rfl rfl, _, fun w' h' => h'.cell (i := 0) rfl rfl, _, rfl, C.nc ⟨?_⟩⟩
  have hcs : Cs (w2.alloc (.cells #[.string ⟨#[]⟩, .string ⟨#[108, 101, 102, 116]⟩, .string ⟨#[114, 105, 103, 104, 116]⟩, .string ⟨#[115, 117, 109]⟩] 9)) (some (blk w2.heap.size)) (strs polNames) := cs_alloc w2 _ _
  have e3 := e2.alloc (.cells #[.string ⟨#[]⟩, .string ⟨#[108, 101, 102, 116]⟩, .string ⟨#[114, 105, 103, 104, 116]⟩, .string ⟨#[115, 117, 109]⟩] 9)
  have hf3 := hf2.ext (ext_alloc w2 (.cells #[.string ⟨#[]⟩, .string ⟨#[108, 101, 102, 116]⟩, .string ⟨#[114, 105, 103, 104, 116]⟩, .string ⟨#[115, 117, 109]⟩] 9))
  generalize w2.alloc (.cells #[.string ⟨#[]⟩, .string ⟨#[108, 101, 102, 116]⟩, .string ⟨#[114, 105, 103, 104, 116]⟩, .string ⟨#[115, 117, 109]⟩] 9) = w3 at hcs e3 hf3 ⊢
  have ho3 : ¬ C.own w3 xb := fun h => ho (((C.ext hI e3).2 _).1 h)
  have hof : ¬ C.own w3 w.heap.size := fun h => C.new' hI (Nat.le_refl _) (((C.ext hI e3).2 _).1 h)
  have hne : w.heap.size ≠ xb := by omega
  have k1 : Chg C.own (SF w.heap.size (· = xb)) w w3 := C.chg_ext hI e3
  refine ⟨hf3, ?_⟩
  refine C.word (b := xb) (i := 8) (C.ext hI e3).1 hl ho3 (hx.ext e3) rfl hin.pol hcs rfl (Nat.le_refl _) hp (fun v' s' w4 hv hI4 hb4 c4 => retS_ret ⟨rfl, c4.blk hf3 hof hne, ?_⟩) fun ch u s' w4 hv hch hls hI4 hb4 c4 => ?_
  · have k : Chg C.own (· = xb) w w4 := (k1.trans (c4.mono fun _ => .inl)).fresh
    refine h { x with pol := v' } s' w4 (by simp only [partP, hv]; rfl) hI4 hb4 ?_ k
    exact ⟨(hr.chg k).p, (hr.chg k).k⟩
  · have k : Chg C.own (· = xb) w w4 := (k1.trans (c4.mono fun _ => .inl)).fresh
    exact hn ch w4 (by simp only [partP, hv]; rfl) hch (hr.some (y := { x with pol := u }) hb4) ⟨_, hI4⟩ k
abbrev kindObj : Obj := .cells #[.string ⟨#[]⟩, .string ⟨#[97, 108, 108]⟩, .string ⟨#[107, 101, 121]⟩, .string ⟨#[118, 97, 108]⟩, .string ⟨#[109, 111, 100]⟩, .string ⟨#[98, 105, 116, 115]⟩] 9
theorem settle_none {ch : List PanicEntry} (h : NoneCh ch) : settle (.panicking ch) = .panicking ch := by
  obtain ⟨r, rfl, _⟩ := h
  rfl
theorem c_fpred {xb : Nat} {x : POp} {pv kv : Value} {w : World} {s : σ} {R : EW} (hI : C.I w s) (hl : C.len s + 10 * C.grow ≤ lim) (ho : ¬ C.own w xb) (hx : OpAt w xb x pv kv) (hin : InO x) (hr : RowsAt C.own xb w x pv kv) (hp : C.pre kindNames x.pk)
    (h : ∀ x' s' w', partP c .pred x s = some (x', s') → C.I w' s' → OpAt w' xb x' pv kv → RowsAt C.own xb w' x' pv kv → Chg C.own (· = xb) w w' → R (.returned unitV) w')
    (hn : ∀ ch w', partP c .pred x s = none → NoneCh ch → Some15 w' xb → (∃ s', C.I w' s') → Chg C.own (· = xb) w w' → R (.panicked ch) w') :
    Calls Tryz.prog 75 #[.agg #[.pointer (some (blk xb)), .iface ct cp]] w R := by
  refine sh75_ok _ _ ?_
  unfold sh75
  refine ⟨?_⟩
  have e1 := ext_alloc w (.cells #[.pointer (some (blk xb)), .iface ct cp] 103)
  have hf1 := blk_alloc w #[.pointer (some (blk xb)), .iface ct cp] 103
  generalize w.alloc (.cells #[.pointer (some (blk xb)), .iface ct cp] 103) = w1 at e1 hf1 ⊢
  have hxb := hx.lt
  have hne : w.heap.size ≠ xb := by omega
  refine ⟨_, hf1.cell (i := 0) rfl rfl, _, rfl, ⟨?_⟩⟩
  have hcs : Cs (w1.alloc kindObj) (some (blk w1.heap.size)) (strs kindNames) := cs_alloc w1 _ _
  have zk : w1.heap.size < (w1.alloc kindObj).heap.size := by simp
  have e2 := e1.alloc kindObj
  have hf2 := hf1.ext (ext_alloc w1 kindObj)
  have hkb : w.heap.size < w1.heap.size := hf1.lt
  generalize hkr : w1.heap.size = kr at hcs zk hkb ⊢
  generalize hw2 : w1.alloc kindObj = w2 at hcs e2 hf2 zk
  refine ⟨_, hf2.cell (i := 1) rfl rfl, ?_⟩
  clear hw2 hkr e1 hf1
  -- what stands between the steps
  have st : ∀ {w' : World} {s' : σ}, C.I w' s' → Chg C.own (SF w.heap.size (· = xb)) w w' → Blk w' w.heap.size #[.pointer (some (blk xb)), .iface ct cp] 103 → Cs w' (some (blk kr)) (strs kindNames) → kr < w'.heap.size → ¬ C.own w' w.heap.size → ¬ C.own w' kr →
      C.I w'.drew s' ∧ Chg C.own (SF w.heap.size (· = xb)) w w'.drew ∧ Blk w'.drew w.heap.size #[.pointer (some (blk xb)), .iface ct cp] 103 ∧ Cs w'.drew (some (blk kr)) (strs kindNames) ∧ kr < w'.drew.heap.size ∧ ¬ C.own w'.drew w.heap.size ∧ ¬ C.own w'.drew kr ∧ ¬ C.own w'.drew xb ∧ (∀ y, OpAt w' xb y pv kv → OpAt w'.drew xb y pv kv) := by
    intro w' s' h1 h2 h3 h4 h5 h6 h7
    have e := ext_drew w'
    have hh := C.ext h1 e
    exact ⟨hh.1, h2.trans (C.chg_ext h1 e), h3.ext e, h4.ext e, h5, fun h => h6 ((hh.2 _).1 h), fun h => h7 ((hh.2 _).1 h), fun h => h2.out xb hxb ho ((hh.2 _).1 h), fun y hy => hy.ext e⟩
  have nx : ∀ {w' w'' : World}, Chg C.own (SF w.heap.size (· = xb)) w w' → Blk w' w.heap.size #[.pointer (some (blk xb)), .iface ct cp] 103 → Cs w' (some (blk kr)) (strs kindNames) → kr < w'.heap.size → ¬ C.own w' w.heap.size → ¬ C.own w' kr → Chg C.own (· = xb) w' w'' →
      Chg C.own (SF w.heap.size (· = xb)) w w'' ∧ Blk w'' w.heap.size #[.pointer (some (blk xb)), .iface ct cp] 103 ∧ Cs w'' (some (blk kr)) (strs kindNames) ∧ kr < w''.heap.size ∧ ¬ C.own w'' w.heap.size ∧ ¬ C.own w'' kr := by
    intro w' w'' h2 h3 h4 h5 h6 h7 k
    refine ⟨h2.trans (k.mono fun _ => .inl), k.blk h3 h6 hne, fun i u hu => ?_, Nat.lt_of_lt_of_le h5 k.size, k.out _ h3.lt h6, k.out _ h5 h7⟩
    obtain ⟨a, ha, hc⟩ := h4 i u hu
    cases ha
    exact ⟨_, rfl, k.cell hc (by rw [add_block]; exact h7) (by rw [add_block]; show kr ≠ xb; omega)⟩
  have hI2 := (C.ext hI e2).1
  have k2 : Chg C.own (SF w.heap.size (· = xb)) w w2 := C.chg_ext hI e2
  have hof2 : ¬ C.own w2 w.heap.size := fun h => C.new' hI (Nat.le_refl _) (((C.ext hI e2).2 _).1 h)
  have hok2 : ¬ C.own w2 kr := fun h => C.new' hI (Nat.le_of_lt hkb) (((C.ext hI e2).2 _).1 h)
  have hx2 : OpAt w2 xb x pv kv := hx.ext e2
  obtain ⟨p1, b1, p2, b2, hb12, ht1, ht2⟩ := C.ta
  intro K12
  refine ht1 _ _ ⟨_, _, rfl, ht2 _ _ ⟨_, _, rfl, ?_⟩⟩
  suffices H : K12 c.words w2 by
    cases b1
    · exact ifB_f rfl (by rw [show b2 = c.words from hb12]; exact H)
    · exact ifB_t rfl (by rw [show true = c.words from hb12]; exact H)
  cases hw : c.words
  · -- bytes
    refine ifB_f rfl ⟨?_⟩
    obtain ⟨hI3, k3, hf3, hc3, hk3, hof3, hok3, ho3, hx3⟩ := st hI2 k2 hf2 hcs zk hof2 hok2
    have hx3 := hx3 x hx2
    generalize w2.drew = w3 at *
    refine ⟨fun w' => Blk w' w.heap.size #[.pointer (some (blk xb)), .iface ct cp] 103, hf3, _, fun w' h' => h'.cell (i := 1) rfl rfl, _, rfl, C.nc ?_⟩
    refine C.word (b := xb) (i := 9) hI3 (by omega) ho3 hx3 rfl hin.pk hc3 rfl (Nat.le_refl _) hp (fun k' s4 w4 hv4 hI4 hb4 c4 => retS_ret ⟨rfl, ?_⟩) fun ch u s4 w4 hv4 hch hls hI4 hb4 c4 => ?_
    case refine_2 =>
      refine ⟨hn ch w4 (by simp only [partP, predP, hw, hv4]; rfl) hch (hr.some (y := { x with pk := u }) hb4) ⟨_, hI4⟩ (k3.trans (c4.mono fun _ => .inl)).fresh⟩
    obtain ⟨k4, hf4, hc4, hk4, hof4, hok4⟩ := nx k3 hf3 hc3 hk3 hof3 hok3 c4
    have l4 := (C.wordIn hin.pk hv4).2
    refine ⟨?_⟩
    obtain ⟨hI5, k5, hf5, hc5, hk5, hof5, hok5, ho5, hx5⟩ := st hI4 k4 hf4 hc4 hk4 hof4 hok4
    have hx5 := hx5 { x with pk := k' } hb4
    generalize w4.drew = w5 at *
    refine ⟨fun w' => Blk w' w.heap.size #[.pointer (some (blk xb)), .iface ct cp] 103, hf5, _, fun w' h' => h'.cell (i := 1) rfl rfl, C.nc ⟨_, rfl, ⟨?_⟩⟩⟩
    obtain ⟨hI6, k6, hf6, hc6, hk6, hof6, hok6, ho6, hx6⟩ := st hI5 k5 hf5 hc5 hk5 hof5 hok5
    have hx6 := hx6 _ hx5
    generalize w5.drew = w6 at *
    refine ⟨fun w' => Blk w' w.heap.size #[.pointer (some (blk xb)), .iface ct cp] 103, hf6, _, fun w' h' => h'.cell (i := 1) rfl rfl, _, rfl, C.nc ?_⟩
    refine C.num (b := xb) (i := 10) hI6 (by omega) ho6 hx6 rfl hin.pa (fun a' s7 w7 hv7 hI7 hb7 c7 => retS_ret ⟨rfl, ?_⟩) fun ch u s7 w7 hv7 hch hls hI7 hb7 c7 => ?_
    case refine_2 =>
      obtain ⟨k7, hf7, hc7, hk7, hof7, hok7⟩ := nx k6 hf6 hc6 hk6 hof6 hok6 c7
      refine C.flagD hw (b := xb) (i := 12) (by simp) hI7 (by omega) (k7.out xb hxb ho) (show Blk w7 xb (opCells { x with pk := k', pa := u } pv kv) 37 from hb7) rfl (fun v' s8 w8 hv8 hI8 hb8 c8 => ?_) fun ch2 v' s8 w8 hv8 hch2 hls8 hI8 hb8 c8 => ?_
      · rw [settle_none hch]
        exact ⟨hn ch w8 (by simp only [partP, predP, hw, hv4, Option.bind_some, hv7]; rfl) hch (hr.some (y := { x with pk := k', pa := u, pnot := v' }) hb8) ⟨_, hI8⟩ (k7.trans (c8.mono fun _ => .inl)).fresh⟩
      · exact ⟨hn _ w8 (by simp only [partP, predP, hw, hv4, Option.bind_some, hv7]; rfl) (hch2.app hch) (hr.some (y := { x with pk := k', pa := u, pnot := v' }) hb8) ⟨_, hI8⟩ (k7.trans (c8.mono fun _ => .inl)).fresh⟩
    obtain ⟨k7, hf7, hc7, hk7, hof7, hok7⟩ := nx k6 hf6 hc6 hk6 hof6 hok6 c7
    have l7 := (C.numIn hin.pa hv7).2
    refine ⟨?_⟩
    obtain ⟨hI8, k8, hf8, hc8, hk8, hof8, hok8, ho8, hx8⟩ := st hI7 k7 hf7 hc7 hk7 hof7 hok7
    have hx8 := hx8 { x with pk := k', pa := a' } hb7
    generalize w7.drew = w8 at *
    refine ⟨fun w' => Blk w' w.heap.size #[.pointer (some (blk xb)), .iface ct cp] 103, hf8, _, fun w' h' => h'.cell (i := 1) rfl rfl, _, rfl, C.nc ?_⟩
    refine C.num (b := xb) (i := 11) hI8 (by omega) ho8 hx8 rfl hin.pb (fun b' s9 w9 hv9 hI9 hb9 c9 => retS_ret ⟨rfl, ?_⟩) fun ch u s9 w9 hv9 hch hls hI9 hb9 c9 => ?_
    case refine_2 =>
      obtain ⟨k9, hf9, hc9, hk9, hof9, hok9⟩ := nx k8 hf8 hc8 hk8 hof8 hok8 c9
      refine C.flagD hw (b := xb) (i := 12) (by simp) hI9 (by omega) (k9.out xb hxb ho) (show Blk w9 xb (opCells { x with pk := k', pa := a', pb := u } pv kv) 37 from hb9) rfl (fun v' s10 w10 hv10 hI10 hb10 c10 => ?_) fun ch2 v' s10 w10 hv10 hch2 hls10 hI10 hb10 c10 => ?_
      · rw [settle_none hch]
        exact ⟨hn ch w10 (by simp only [partP, predP, hw, hv4, Option.bind_some, hv7, hv9]; rfl) hch (hr.some (y := { x with pk := k', pa := a', pb := u, pnot := v' }) hb10) ⟨_, hI10⟩ (k9.trans (c10.mono fun _ => .inl)).fresh⟩
      · exact ⟨hn _ w10 (by simp only [partP, predP, hw, hv4, Option.bind_some, hv7, hv9]; rfl) (hch2.app hch) (hr.some (y := { x with pk := k', pa := a', pb := u, pnot := v' }) hb10) ⟨_, hI10⟩ (k9.trans (c10.mono fun _ => .inl)).fresh⟩
    obtain ⟨k9, hf9, hc9, hk9, hof9, hok9⟩ := nx k8 hf8 hc8 hk8 hof8 hok8 c9
    have l9 := (C.numIn hin.pb hv9).2
    refine ?_
    refine C.flagD hw (b := xb) (i := 12) (by simp) hI9 (by omega) (k9.out xb hxb ho) (show Blk w9 xb (opCells { x with pk := k', pa := a', pb := b' } pv kv) 37 from hb9) rfl (fun v' s10 w10 hv10 hI10 hb10 c10 => ?_) fun ch2 v' s10 w10 hv10 hch2 hls10 hI10 hb10 c10 => ?_
    · have k : Chg C.own (· = xb) w w10 := (k9.trans (c10.mono fun _ => .inl)).fresh
      exact ⟨h { x with pk := k', pa := a', pb := b', pnot := v' } s10 w10 (by simp only [partP, predP, hw, hv4, Option.bind_some, hv7, hv9, hv10]; rfl) hI10 hb10 ⟨(hr.chg k).p, (hr.chg k).k⟩ k⟩
    · have k : Chg C.own (· = xb) w w10 := (k9.trans (c10.mono fun _ => .inl)).fresh
      exact ⟨hn _ w10 (by simp only [partP, predP, hw, hv4, Option.bind_some, hv7, hv9, hv10]; rfl) hch2 (hr.some (y := { x with pk := k', pa := a', pb := b', pnot := v' }) hb10) ⟨_, hI10⟩ k⟩
  · -- words
    refine ifB_t rfl ⟨?_⟩
    obtain ⟨hI3, k3, hf3, hc3, hk3, hof3, hok3, ho3, hx3⟩ := st hI2 k2 hf2 hcs zk hof2 hok2
    have hx3 := hx3 x hx2
    generalize w2.drew = w3 at *
    refine ⟨fun w' => Blk w' w.heap.size #[.pointer (some (blk xb)), .iface ct cp] 103, hf3, _, fun w' h' => h'.cell (i := 1) rfl rfl, _, rfl, C.nc ?_⟩
    refine C.flag (b := xb) (i := 12) hI3 (by omega) ho3 hx3 rfl (fun f' s4 w4 hv4 hI4 hb4 c4 => retS_ret ⟨rfl, ?_⟩) fun ch u s4 w4 hv4 hch hls hI4 hb4 c4 => ?_
    case refine_2 =>
      exact ⟨hn ch w4 (by simp only [partP, predP, hw, if_true, hv4]; rfl) hch (hr.some (y := { x with pnot := u }) hb4) ⟨_, hI4⟩ (k3.trans (c4.mono fun _ => .inl)).fresh⟩
    obtain ⟨k4, hf4, hc4, hk4, hof4, hok4⟩ := nx k3 hf3 hc3 hk3 hof3 hok3 c4
    have l4 := C.flagIn hv4
    refine ⟨?_⟩
    obtain ⟨hI5, k5, hf5, hc5, hk5, hof5, hok5, ho5, hx5⟩ := st hI4 k4 hf4 hc4 hk4 hof4 hok4
    have hx5 := hx5 { x with pnot := f' } hb4
    generalize w4.drew = w5 at *
    refine ⟨fun w' => Blk w' w.heap.size #[.pointer (some (blk xb)), .iface ct cp] 103, hf5, _, fun w' h' => h'.cell (i := 1) rfl rfl, _, rfl, C.nc ?_⟩
    refine C.word (b := xb) (i := 9) hI5 (by omega) ho5 hx5 rfl hin.pk hc5 rfl (Nat.le_refl _) hp (fun k' s6 w6 hv6 hI6 hb6 c6 => retS_ret ⟨rfl, ?_⟩) fun ch u s6 w6 hv6 hch hls hI6 hb6 c6 => ?_
    case refine_2 =>
      exact ⟨hn ch w6 (by simp only [partP, predP, hw, if_true, hv4, Option.bind_some, hv6]; rfl) hch (hr.some (y := { x with pnot := f', pk := u }) hb6) ⟨_, hI6⟩ (k5.trans (c6.mono fun _ => .inl)).fresh⟩
    obtain ⟨k6, hf6, hc6, hk6, hof6, hok6⟩ := nx k5 hf5 hc5 hk5 hof5 hok5 c6
    have l6 := (C.wordIn hin.pk hv6).2
    refine ⟨_, rfl, k', (show Blk w6 xb (opCells { x with pnot := f', pk := k' } pv kv) 37 from hb6).cell (i := 9) rfl rfl, ifB_intro (fun z => ?_) fun z => ?_⟩
    · have z : k' = 1 := by simpa using z
      have k : Chg C.own (· = xb) w w6 := k6.fresh
      exact ⟨h { x with pnot := f', pk := k' } s6 w6 (by simp only [partP, predP, hw, if_true, hv4, Option.bind_some, hv6, z]) hI6 hb6 ⟨(hr.chg k).p, (hr.chg k).k⟩ k⟩
    have z : k' ≠ 1 := by simpa using z
    refine ⟨?_⟩
    obtain ⟨hI7, k7, hf7, hc7, hk7, hof7, hok7, ho7, hx7⟩ := st hI6 k6 hf6 hc6 hk6 hof6 hok6
    have hx7 := hx7 { x with pnot := f', pk := k' } hb6
    generalize w6.drew = w7 at *
    refine ⟨fun w' => Blk w' w.heap.size #[.pointer (some (blk xb)), .iface ct cp] 103, hf7, _, fun w' h' => h'.cell (i := 1) rfl rfl, _, rfl, C.nc ?_⟩
    refine C.num (b := xb) (i := 10) hI7 (by omega) ho7 hx7 rfl hin.pa (fun a' s8 w8 hv8 hI8 hb8 c8 => retS_ret ⟨rfl, ?_⟩) fun ch u s8 w8 hv8 hch hls hI8 hb8 c8 => ?_
    case refine_2 =>
      exact ⟨hn ch w8 (by simp only [partP, predP, hw, if_true, hv4, Option.bind_some, hv6, if_neg z, hv8]; rfl) hch (hr.some (y := { x with pnot := f', pk := k', pa := u }) hb8) ⟨_, hI8⟩ (k7.trans (c8.mono fun _ => .inl)).fresh⟩
    obtain ⟨k8, hf8, hc8, hk8, hof8, hok8⟩ := nx k7 hf7 hc7 hk7 hof7 hok7 c8
    have l8 := (C.numIn hin.pa hv8).2
    refine ⟨?_⟩
    obtain ⟨hI9, k9, hf9, hc9, hk9, hof9, hok9, ho9, hx9⟩ := st hI8 k8 hf8 hc8 hk8 hof8 hok8
    have hx9 := hx9 { x with pnot := f', pk := k', pa := a' } hb8
    generalize w8.drew = w9 at *
    refine ⟨fun w' => Blk w' w.heap.size #[.pointer (some (blk xb)), .iface ct cp] 103, hf9, _, fun w' h' => h'.cell (i := 1) rfl rfl, _, rfl, C.nc ?_⟩
    refine C.num (b := xb) (i := 11) hI9 (by omega) ho9 hx9 rfl hin.pb (fun b' s10 w10 hv10 hI10 hb10 c10 => retS_ret ⟨rfl, ?_⟩) fun ch u s10 w10 hv10 hch hls hI10 hb10 c10 => ?_
    case refine_2 =>
      exact ⟨hn ch w10 (by simp only [partP, predP, hw, if_true, hv4, Option.bind_some, hv6, if_neg z, hv8, hv10]; rfl) hch (hr.some (y := { x with pnot := f', pk := k', pa := a', pb := u }) hb10) ⟨_, hI10⟩ (k9.trans (c10.mono fun _ => .inl)).fresh⟩
    obtain ⟨k10, hf10, hc10, hk10, hof10, hok10⟩ := nx k9 hf9 hc9 hk9 hof9 hok9 c10
    have k : Chg C.own (· = xb) w w10 := k10.fresh
    exact ⟨h { x with pnot := f', pk := k', pa := a', pb := b' } s10 w10 (by simp only [partP, predP, hw, if_true, hv4, Option.bind_some, hv6, if_neg z, hv8, hv10]) hI10 hb10 ⟨(hr.chg k).p, (hr.chg k).k⟩ k⟩
end
end Go.Proofs.YtmkpkmdnapccgaaGreatDoor

