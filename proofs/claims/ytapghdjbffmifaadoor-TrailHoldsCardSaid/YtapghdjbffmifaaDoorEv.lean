/-
  The laws by which a body is walked over values without memory: each operation as its next step, so that what follows is not looked into. Conditions: those that each theorem states.
-/
import Derived.Test.YtapghdjbffmifaaDoorAbs16
namespace Go.Proofs.YtapghdjbffmifaaDoor
open Go.RowKit
set_option maxRecDepth 100000

def asB (u : AV) (k : Bool → Prop) : Prop := match u with | .ex (.bool t) => k t | _ => False
def asI (u : AV) (k : IntKind → Int → Prop) : Prop := match u with | .ex (.int kd n) => k kd n | _ => False
def opt {α : Type} (x : Option α) (k : α → Prop) : Prop := match x with | some y => k y | none => False
/-- Two ways, neither of which is looked into. -/
def aif (c : Bool) (A B : Prop) : Prop := (c = true → A) ∧ (c = false → B)
theorem aif_true (A B : Prop) : aif true A B = A := by simp [aif]
theorem aif_false (A B : Prop) : aif false A B = B := by simp [aif]
theorem asB_b (t : Bool) (k : Bool → Prop) : asB (.ex (.bool t)) k = k t := rfl
theorem asI_i (kd : IntKind) (n : Int) (k : IntKind → Int → Prop) : asI (.ex (.int kd n)) k = k kd n := rfl
theorem opt_some {α : Type} (y : α) (k : α → Prop) : opt (some y) k = k y := rfl
@[congr] theorem aif_congr {c c' : Bool} {A B : Prop} (h : c = c') : aif c A B = aif c' A B := by rw [h]
@[congr] theorem asB_congr {u u' : AV} {k : Bool → Prop} (h : u = u') : asB u k = asB u' k := by rw [h]
@[congr] theorem asI_congr {u u' : AV} {k : IntKind → Int → Prop} (h : u = u') : asI u k = asI u' k := by rw [h]
@[congr] theorem opt_congr {α : Type} {x x' : Option α} {k : α → Prop} (h : x = x') : opt x k = opt x' k := by rw [h]
theorem asB_ex {u : AV} {k : Bool → Prop} : (∃ t, u = .ex (.bool t) ∧ k t) = asB u k := by
  apply propext
  unfold asB
  constructor
  · rintro ⟨t, rfl, h⟩; exact h
  · intro h
    split at h
    · exact ⟨_, rfl, h⟩
    · exact h.elim
theorem asI_ex {u : AV} {k : IntKind → Int → Prop} : (∃ kd n, u = .ex (.int kd n) ∧ k kd n) = asI u k := by
  apply propext
  unfold asI
  constructor
  · rintro ⟨kd, n, rfl, h⟩; exact h
  · intro h
    split at h
    · exact ⟨_, _, rfl, h⟩
    · exact h.elim
theorem opt_ex {α : Type} {x : Option α} {k : α → Prop} : (∃ y, x = some y ∧ k y) = opt x k := by
  apply propext
  unfold opt
  constructor
  · rintro ⟨y, rfl, h⟩; exact h
  · intro h
    split at h
    · exact ⟨_, rfl, h⟩
    · exact h.elim

section
variable {P : Program} {C : World → Prop} {id : Nat} {ty : Nat} {ev : Operand → AV} {hp : Nat → Option Row1} {k : AV → Eff → Prop}
@[congr] theorem awp_congr {c : Code} {Q : Exit → AS → Prop} {σ σ' : AS} (h : σ = σ') : awp P C c Q σ = awp P C c Q σ' := by rw [h]
@[congr] theorem aops_congr {ops : Array Oper} {nd b i : Nat} {l : List Oper} {K : AS → Prop} {σ σ' : AS} (h : σ = σ') : aops P C ops nd b i l K σ = aops P C ops nd b i l K σ' := by rw [h]
@[congr] theorem aval_congr {id' : Nat} {op : Op} (h : id = id') : aval P C id op ty ev hp k = aval P C id' op ty ev hp k := by rw [h]
@[congr] theorem opCall_congr {f : Nat} {args args' : List AV} (h : args = args') : opCall P C id f hp args k = opCall P C id f hp args' k := by rw [h]
@[congr] theorem opBin_congr {op : BinOp} {t : Nat} {x x' y y' : AV} (h : x = x') (h' : y = y') : opBin P op t x y k = opBin P op t x' y' k := by rw [h, h']
@[congr] theorem opUn_congr {op : UnOp} {x x' : AV} (h : x = x') : opUn op x k = opUn op x' k := by rw [h]
@[congr] theorem opConv_congr {s d : Nat} {x x' : AV} (h : x = x') : opConv P hp s d x k = opConv P hp s d x' k := by rw [h]
@[congr] theorem ldCell_congr {t off off' : Nat} {cs cs' : List AV} (h : cs = cs') (h' : off = off') : ldCell P t cs off k = ldCell P t cs' off' k := by rw [h, h']
@[congr] theorem opLen_congr {t : Nat} {x x' : AV} (h : x = x') : opLen P hp t x k = opLen P hp t x' k := by rw [h]
@[congr] theorem opApp_congr {e : Nat} {s s' : AV} {ns ns' : List (List AV)} (h : s = s') (h' : ns = ns') : opApp P hp id e s ns k = opApp P hp id e s' ns' k := by rw [h, h']
@[congr] theorem opIx_congr {t n n' : Nat} {x x' : AV} (h : x = x') (h' : n = n') : opIx P hp t x n k = opIx P hp t x' n' k := by rw [h, h']
@[congr] theorem opSlice_congr {t : Nat} {x x' : AV} {lo hi mx : Option Operand} (h : x = x') : opSlice P t x ev lo hi mx k = opSlice P t x' ev lo hi mx k := by rw [h]

theorem ev_pick {c a b : Operand} : aval P C id (.pick c a b) ty ev hp k = asB (ev c) fun t => k (if t then ev a else ev b) .none := asB_ex
theorem ev_box {t : Nat} {x : Operand} : aval P C id (.box t x) ty ev hp k = opt (ev x).cells fun cs => (cs.length = (aty P t).sz ∧ 0 < cs.length) ∧ k (.pt id 0 0) (.new ⟨t, [cs], true⟩) := opt_ex
/-- A cell's place. -/
def plc (hp : Nat → Option Row1) (u : AV) (k : List AV → Nat → Prop) : Prop := match u with
  | .rp cs off => k cs off
  | .pt b j off => opt (hp b) fun β => opt β.es[j]? fun e => k e off
  | _ => False
theorem plc_rp (cs : List AV) (off : Nat) (kk : List AV → Nat → Prop) : plc hp (.rp cs off) kk = kk cs off := rfl
theorem plc_pt (b j off : Nat) (kk : List AV → Nat → Prop) : plc hp (.pt b j off) kk = opt (hp b) fun β => opt β.es[j]? fun e => kk e off := rfl
@[congr] theorem plc_congr {u u' : AV} {kk : List AV → Nat → Prop} (h : u = u') : plc hp u kk = plc hp u' kk := by rw [h]
theorem ev_load {t : Nat} {x : Operand} : aval P C id (.load t x) ty ev hp k = plc hp (ev x) fun cs off => ldCell P t cs off k := by
  unfold aval
  dsimp only
  generalize ev x = u
  cases u <;> try rfl
  rename_i b j off
  apply propext
  rw [plc_pt, ← opt_ex]
  constructor
  · rintro ⟨β, e, h1, h2, h3⟩; exact ⟨β, h1, by rw [← opt_ex]; exact ⟨e, h2, h3⟩⟩
  · rintro ⟨β, h1, h2⟩; rw [← opt_ex] at h2; obtain ⟨e, h2, h3⟩ := h2; exact ⟨β, e, h1, h2, h3⟩
def sto (hp : Nat → Option Row1) (u : AV) (k : Nat → Nat → Nat → Row1 → List AV → Prop) : Prop := match u with
  | .pt b j off => opt (hp b) fun β => opt β.es[j]? fun e => k b j off β e
  | _ => False
theorem sto_pt (b j off : Nat) (kk : Nat → Nat → Nat → Row1 → List AV → Prop) : sto hp (.pt b j off) kk = opt (hp b) fun β => opt β.es[j]? fun e => kk b j off β e := rfl
@[congr] theorem sto_congr {u u' : AV} {kk : Nat → Nat → Nat → Row1 → List AV → Prop} (h : u = u') : sto hp u kk = sto hp u' kk := by rw [h]
theorem ev_store {t : Nat} {x v : Operand} : aval P C id (.store t x v) ty ev hp k = sto hp (ev x) fun b j off β e => opt (ev v).cells fun cs => (β.mu = true ∧ cs.length = (aty P t).sz ∧ 0 < cs.length ∧ off + cs.length ≤ e.length) ∧
    k .junk (.set b ⟨β.ty, β.es.set j (e.take off ++ cs ++ e.drop (off + cs.length)), true⟩) := by
  unfold aval
  dsimp only
  generalize ev x = u
  cases u <;> try rfl
  rename_i b j off
  apply propext
  rw [sto_pt, ← opt_ex]
  constructor
  · rintro ⟨β, e, cs, h1, h2, h3, h4, ⟨h5, h6, h7⟩, h8⟩
    refine ⟨β, h1, ?_⟩
    rw [← opt_ex]
    refine ⟨e, h3, ?_⟩
    rw [← opt_ex]
    exact ⟨cs, h4, ⟨h2, h5, h6, h7⟩, h8⟩
  · rintro ⟨β, h1, h2⟩
    rw [← opt_ex] at h2
    obtain ⟨e, h3, h2⟩ := h2
    rw [← opt_ex] at h2
    obtain ⟨cs, h4, ⟨h2, h5, h6, h7⟩, h8⟩ := h2
    exact ⟨β, e, cs, h1, h2, h3, h4, ⟨h5, h6, h7⟩, h8⟩
theorem ev_makeSlice {t : Nat} {x y : Operand} : aval P C id (.makeSlice t x y) ty ev hp k = asI (ev x) fun kx n => asI (ev y) fun ky c => (kx = .i64 ∧ ky = .i64) ∧ match (aty P t).k with
    | .slice e => ((aty P e).zero.length = (aty P e).sz ∧ 0 < (aty P e).sz ∧ 1 ≤ (aty P e).bytes ∧ (aty P e).zero.all (·.oneCell') = true) ∧ (n = 0 ∧ 0 ≤ c ∧ (aty P e).bytes * c.toNat ≤ 140737488355328) ∧
        k (.own id) (.new ⟨e, [], true⟩)
    | _ => False := by
  apply propext
  rw [← asI_ex]
  unfold aval
  dsimp only
  constructor
  · rintro ⟨n, c, h1, h2, h3⟩
    refine ⟨_, n, h1, ?_⟩
    rw [← asI_ex]
    exact ⟨_, c, h2, ⟨rfl, rfl⟩, h3⟩
  · rintro ⟨kx, n, h1, h2⟩
    rw [← asI_ex] at h2
    obtain ⟨ky, c, h2, ⟨rfl, rfl⟩, h3⟩ := h2
    exact ⟨n, c, h1, h2, h3⟩
def fld (u : AV) (o : Nat) (k : AV → Eff → Prop) : Prop := match u with
  | .rp cs off => k (.rp cs (off + o)) .none
  | .pt b j off => k (.pt b j (off + o)) .none
  | _ => False
theorem fld_rp (cs : List AV) (off o : Nat) : fld (.rp cs off) o k = k (.rp cs (off + o)) .none := rfl
theorem fld_pt (b j off o : Nat) : fld (.pt b j off) o k = k (.pt b j (off + o)) .none := rfl
@[congr] theorem fld_congr {u u' : AV} {o : Nat} (h : u = u') : fld u o k = fld u' o k := by rw [h]
theorem ev_fieldAddr {s : Nat} {x : Operand} {f : Nat} : aval P C id (.fieldAddr s x f) ty ev hp k = opt (aty P s).flds[f]? fun p => (aty P p.2).sz ≠ 0 ∧ fld (ev x) p.1 k := by
  apply propext
  rw [← opt_ex]
  unfold aval fld
  dsimp only
  constructor
  · rintro ⟨o, ft, h1, h2, h3⟩; exact ⟨(o, ft), h1, h2, h3⟩
  · rintro ⟨⟨o, ft⟩, h1, h2, h3⟩; exact ⟨o, ft, h1, h2, h3⟩
def agc (u : AV) (k : List AV → Prop) : Prop := match u with | .agg cs => k cs | _ => False
theorem agc_a (cs : List AV) (kk : List AV → Prop) : agc (.agg cs) kk = kk cs := rfl
@[congr] theorem agc_congr {u u' : AV} {kk : List AV → Prop} (h : u = u') : agc u kk = agc u' kk := by rw [h]
theorem ev_field {s : Nat} {x : Operand} {f : Nat} : aval P C id (.field s x f) ty ev hp k = opt (aty P s).flds[f]? fun p => agc (ev x) fun cs => ldCell P p.2 cs p.1 k := by
  apply propext
  rw [← opt_ex]
  unfold aval agc
  dsimp only
  constructor
  · rintro ⟨o, ft, h1, h3⟩; exact ⟨(o, ft), h1, h3⟩
  · rintro ⟨⟨o, ft⟩, h1, h3⟩; exact ⟨o, ft, h1, h3⟩
theorem ev_indexAddr {t : Nat} {x i : Operand} : aval P C id (.indexAddr t x i) ty ev hp k = asI (ev i) fun _ n => 0 ≤ n ∧ opIx P hp t (ev x) n.toNat k := asI_ex
def opIxv (P : Program) (t : TypeId) (u : AV) (n : Nat) (k : AV → Eff → Prop) : Prop := match (aty P t).k, u with
    | .str, .ex (.string s) => ∃ h : n < s.size, k (.ex (.int .u8 (s[n]'h).toNat)) .none
    | .arr len e, .agg cs => 0 < (aty P e).sz ∧ n < len ∧ ldCell P e cs (n * (aty P e).sz) k
    | _, _ => False
@[congr] theorem opIxv_congr {t n n' : Nat} {x x' : AV} (h : x = x') (h' : n = n') : opIxv P t x n k = opIxv P t x' n' k := by rw [h, h']
theorem ev_index {t : Nat} {x i : Operand} : aval P C id (.index t x i) ty ev hp k = asI (ev i) fun _ n => 0 ≤ n ∧ opIxv P t (ev x) n.toNat k := asI_ex
def tupc (u : AV) (k : List AV → Prop) : Prop := match u with | .tup cs => k cs | _ => False
theorem tupc_a (cs : List AV) (kk : List AV → Prop) : tupc (.tup cs) kk = kk cs := rfl
@[congr] theorem tupc_congr {u u' : AV} {kk : List AV → Prop} (h : u = u') : tupc u kk = tupc u' kk := by rw [h]
theorem ev_extract {x : Operand} {i : Nat} : aval P C id (.extract x i) ty ev hp k = tupc (ev x) fun vs => opt vs[i]? fun u => k u .none := by
  unfold aval
  dsimp only
  generalize ev x = u
  cases u <;> try rfl
  exact opt_ex
theorem ev_callf {f : Nat} {args : Array Operand} {tys : Array Nat} : aval P C id (.call ⟨.value (.func f), args, tys⟩) ty ev hp k = opCall P C id f hp (args.toList.map ev) k := rfl
theorem ev_len {x : Operand} {t : Nat} : aval P C id (.call ⟨.builtin .len, #[x], #[t]⟩) ty ev hp k = opLen P hp t (ev x) k := rfl
/-- What is appended. -/
def rdApp (hp : Nat → Option Row1) : AV → Option (List (List AV))
  | .ex (.string _) => none
  | u => rdSl hp u
theorem ev_app {s x : Operand} {t t2 : Nat} : aval P C id (.call ⟨.builtin .append, #[s, x], #[t, t2]⟩) ty ev hp k = match (aty P t).k with
        | .slice e => t2 = t ∧ opt (rdApp hp (ev x)) fun ns => opApp P hp id e (ev s) ns k
        | _ => False := by
  unfold aval
  dsimp only
  cases (aty P t).k <;> try rfl
  dsimp only
  apply propext
  rw [← opt_ex]
  constructor
  · intro h
    split at h
    · exact h.elim
    · rename_i hne
      obtain ⟨h1, ns, h2, h3⟩ := h
      refine ⟨h1, ns, ?_, h3⟩
      unfold rdApp
      split
      · rename_i q heq; exact absurd heq (hne q)
      · exact h2
  · rintro ⟨h1, ns, h2, h3⟩
    unfold rdApp at h2
    split at h2
    · cases h2
    · rename_i hne
      split
      · rename_i q heq; exact absurd heq (hne q)
      · exact ⟨h1, ns, h2, h3⟩
theorem ev_min {x y : Operand} {tys : Array Nat} : aval P C id (.call ⟨.builtin .min, #[x, y], tys⟩) ty ev hp k = asI (ev x) fun kd a => asI (ev y) fun _ b => k (.ex (.int kd (if b < a then b else a))) .none := by
  apply propext
  rw [← asI_ex]
  constructor
  · rintro ⟨kd, p, kd', q, h1, h2, h3⟩
    refine ⟨kd, p, h1, ?_⟩
    rw [← asI_ex]
    exact ⟨kd', q, h2, h3⟩
  · rintro ⟨kd, p, h1, h2⟩
    rw [← asI_ex] at h2
    obtain ⟨kd', q, h2, h3⟩ := h2
    exact ⟨kd, p, kd', q, h1, h2, h3⟩
theorem ev_max {x y : Operand} {tys : Array Nat} : aval P C id (.call ⟨.builtin .max, #[x, y], tys⟩) ty ev hp k = asI (ev x) fun kd a => asI (ev y) fun _ b => k (.ex (.int kd (if a < b then b else a))) .none := by
  apply propext
  rw [← asI_ex]
  constructor
  · rintro ⟨kd, p, kd', q, h1, h2, h3⟩
    refine ⟨kd, p, h1, ?_⟩
    rw [← asI_ex]
    exact ⟨kd', q, h2, h3⟩
  · rintro ⟨kd, p, h1, h2⟩
    rw [← asI_ex] at h2
    obtain ⟨kd', q, h2, h3⟩ := h2
    exact ⟨kd, p, kd', q, h1, h2, h3⟩
end
end Go.Proofs.YtapghdjbffmifaaDoor
