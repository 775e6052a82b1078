/- Models as plain data; when two are the same; which may be. No program is in sight. -/
import Derived.Test.YtckflfkfjpjkjaaDoorLexP
namespace Go.Md
open Go.RowKit Go.Lx

structure VarD where
  nm : ByteArray
  ini : Int
structure RegD where
  nm : ByteArray
  own : Int
structure VerD where
  nm : ByteArray
  kd : Nat
  rg : Int
  ofv : Int
  en : ByteArray
  ex : ByteArray
  df : List ByteArray
  sb : ByteArray
structure TrnD where
  nm : ByteArray
  src : Int
  tgt : Int
  tr : List ByteArray
  af : Int
  gd : ByteArray
  ef : ByteArray
  kd : Nat
structure MdlD where
  nm : ByteArray
  vars : List VarD
  evs : List ByteArray
  regs : List RegD
  vers : List VerD
  trns : List TrnD

/-- Two texts are the same. -/
def eqS (a b : ByteArray) : Bool := a.toList == b.toList
theorem eqS_iff {a b : ByteArray} : eqS a b = true ↔ a = b := by
  unfold eqS
  rw [beq_iff_eq, toList_eq', toList_eq']
  exact ⟨ba_ext, fun h => by rw [h]⟩
theorem eqS_refl (a : ByteArray) : eqS a a = true := eqS_iff.2 rfl
theorem eqS_comm (a b : ByteArray) : eqS a b = eqS b a := by
  rw [Bool.eq_iff_iff, eqS_iff, eqS_iff]; exact ⟨Eq.symm, Eq.symm⟩
/-- Two rows are the same. -/
def eqL {α : Type} (f : α → α → Bool) : List α → List α → Bool
  | [], [] => true
  | a :: s, b :: t => f a b && eqL f s t
  | _, _ => false
theorem eqL_len {α : Type} {f : α → α → Bool} : ∀ {s t : List α}, eqL f s t = true → s.length = t.length
  | [], [], _ => rfl
  | a :: s, b :: t, h => by
    simp only [eqL, Bool.and_eq_true] at h
    simp [eqL_len h.2]
  | [], _ :: _, h => by simp [eqL] at h
  | _ :: _, [], h => by simp [eqL] at h
theorem eqL_refl {α : Type} {f : α → α → Bool} (hf : ∀ a, f a a = true) : ∀ s, eqL f s s = true
  | [] => rfl
  | a :: s => by simp only [eqL, hf, eqL_refl hf s]; rfl
theorem eqL_comm {α : Type} {f : α → α → Bool} (hf : ∀ a b, f a b = f b a) : ∀ s t, eqL f s t = eqL f t s
  | [], [] => rfl
  | a :: s, b :: t => by simp only [eqL, hf a b, eqL_comm hf s t]
  | [], _ :: _ => rfl
  | _ :: _, [] => rfl
theorem eqL_drop {α : Type} {f : α → α → Bool} {s t : List α} {k : Nat} (h1 : k < s.length) (h2 : k < t.length) : eqL f (s.drop k) (t.drop k) = (f s[k] t[k] && eqL f (s.drop (k + 1)) (t.drop (k + 1))) := by
  rw [List.drop_eq_getElem_cons h1, List.drop_eq_getElem_cons h2]; rfl
theorem eqL_iff {α : Type} {f : α → α → Bool} (hf : ∀ a b, f a b = true → a = b) : ∀ {s t : List α}, eqL f s t = true → s = t
  | [], [], _ => rfl
  | a :: s, b :: t, h => by
    simp only [eqL, Bool.and_eq_true] at h
    rw [hf _ _ h.1, eqL_iff hf h.2]
  | [], _ :: _, h => by simp [eqL] at h
  | _ :: _, [], h => by simp [eqL] at h

def eqVar (a b : VarD) : Bool := eqS a.nm b.nm && a.ini == b.ini
def eqReg (a b : RegD) : Bool := eqS a.nm b.nm && a.own == b.own
def eqVer (a b : VerD) : Bool := eqL eqS a.df b.df && (eqS a.nm b.nm && a.kd == b.kd && a.rg == b.rg && a.ofv == b.ofv && eqS a.en b.en && eqS a.ex b.ex && eqS a.sb b.sb)
def eqTrn (a b : TrnD) : Bool := eqS a.nm b.nm && a.src == b.src && a.tgt == b.tgt && eqL eqS a.tr b.tr && a.af == b.af && eqS a.gd b.gd && eqS a.ef b.ef && a.kd == b.kd
def sameM (a b : MdlD) : Bool := eqS a.nm b.nm && eqL eqVar a.vars b.vars && eqL eqS a.evs b.evs && eqL eqReg a.regs b.regs && eqL eqVer a.vers b.vers && eqL eqTrn a.trns b.trns
theorem icomm (a b : Int) : (a == b) = (b == a) := by rw [Bool.eq_iff_iff, beq_iff_eq, beq_iff_eq]; exact ⟨Eq.symm, Eq.symm⟩
theorem ncomm (a b : Nat) : (a == b) = (b == a) := by rw [Bool.eq_iff_iff, beq_iff_eq, beq_iff_eq]; exact ⟨Eq.symm, Eq.symm⟩
theorem eqVar_comm (a b : VarD) : eqVar a b = eqVar b a := by unfold eqVar; rw [eqS_comm, icomm]
theorem eqReg_comm (a b : RegD) : eqReg a b = eqReg b a := by unfold eqReg; rw [eqS_comm, icomm]
theorem eqVer_comm (a b : VerD) : eqVer a b = eqVer b a := by
  unfold eqVer
  rw [eqL_comm eqS_comm, eqS_comm a.nm, ncomm, icomm a.rg, icomm a.ofv, eqS_comm a.en, eqS_comm a.ex, eqS_comm a.sb]
theorem eqTrn_comm (a b : TrnD) : eqTrn a b = eqTrn b a := by
  unfold eqTrn
  rw [eqL_comm eqS_comm, eqS_comm a.nm, ncomm, icomm a.src, icomm a.tgt, icomm a.af, eqS_comm a.gd, eqS_comm a.ef]
theorem sameM_comm (a b : MdlD) : sameM a b = sameM b a := by
  unfold sameM
  rw [eqS_comm, eqL_comm eqVar_comm, eqL_comm eqS_comm, eqL_comm eqReg_comm, eqL_comm eqVer_comm, eqL_comm eqTrn_comm]
theorem eqVar_refl (a : VarD) : eqVar a a = true := by simp [eqVar, eqS_refl]
theorem eqReg_refl (a : RegD) : eqReg a a = true := by simp [eqReg, eqS_refl]
theorem eqVer_refl (a : VerD) : eqVer a a = true := by simp [eqVer, eqS_refl, eqL_refl eqS_refl]
theorem eqTrn_refl (a : TrnD) : eqTrn a a = true := by simp [eqTrn, eqS_refl, eqL_refl eqS_refl]
theorem sameM_refl (a : MdlD) : sameM a a = true := by
  simp [sameM, eqS_refl, eqL_refl eqVar_refl, eqL_refl eqS_refl, eqL_refl eqReg_refl, eqL_refl eqVer_refl, eqL_refl eqTrn_refl]
end Go.Md
