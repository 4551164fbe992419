/- Plain: what Spend, Free, Totals, Same compute. -/
import Derived.Test.YtckonmlcgfbojaaLGf
import Derived.Test.YtckonmlcgfbojaaLSe
namespace Go.Proofs.Ytckonmlcgfbojaa
open Go.RowKit

/-- An operation. -/
structure Opr where
  dev : Int
  epoch : Int
  seq : Int
  coll : Int
  ver : Int
  kind : Int
  key : ByteArray
  text : ByteArray
  n : Int
  time : Int
  dots : Sv

/-- The place of a key's slice; -1. -/
def scIx (l : List Sc) (key : ByteArray) : Int := idxS (fun c => decide (c.key = key)) l
def zSc : Sc := ⟨⟨#[]⟩, 0, 0, 0, 0⟩
/-- A number laid in its place. -/
def rise (l : List Int) (n : Int) : List Int := l.take (l.countP (· < n)) ++ n :: l.drop (l.countP (· < n))
def useS (s : Sc) (n : Int) : Sc := ⟨s.key, s.up, s.down, s.uu + max n 0, s.ud + max (-n) 0⟩
def spendC (l : Ls) (key : ByteArray) (n : Int) : Ls × Int :=
  if scIx l.sl key < 0 then (l, 14)
  else if (l.sl.getD (scIx l.sl key).toNat zSc).up - (l.sl.getD (scIx l.sl key).toNat zSc).uu < n ∨ (l.sl.getD (scIx l.sl key).toNat zSc).down - (l.sl.getD (scIx l.sl key).toNat zSc).ud < -n then (l, 14)
  else (⟨l.dev, l.epoch, l.unt, l.last, l.sl.set (scIx l.sl key).toNat (useS (l.sl.getD (scIx l.sl key).toNat zSc) n), l.ids, l.used⟩, 0)
def spendB (l : Ls) (n : Int) : Ls × Int :=
  if hasR l.ids n = false then (l, 14) else if l.used.contains n = true then (l, 7)
  else (⟨l.dev, l.epoch, l.unt, l.last, l.sl, l.ids, rise l.used n⟩, 0)
def spendS (l : Ls) (kind : Int) (key : ByteArray) (n : Int) : Ls × Int :=
  if kind = 4 then spendC l key n else if kind = 5 then spendB l n else (l, 0)

/-- What was not spent of a slice comes back to its counter. -/
def backC (cs : List Ct) (s : Sc) : List Ct :=
  if ctIx cs s.key < 0 then cs
  else cs.set (ctIx cs s.key).toNat ⟨(cs.getD (ctIx cs s.key).toNat zCt).key, (cs.getD (ctIx cs s.key).toNat zCt).coll, (cs.getD (ctIx cs s.key).toNat zCt).lo, (cs.getD (ctIx cs s.key).toNat zCt).hi, (cs.getD (ctIx cs s.key).toNat zCt).start,
    (cs.getD (ctIx cs s.key).toNat zCt).up + (s.up - s.uu), (cs.getD (ctIx cs s.key).toNat zCt).down + (s.down - s.ud)⟩
def leftI (ids : List Rg) (n : Int) : List Rg := if hasR ids n = true then lessS ids n else ids
def boundI (l : List Int) (n : Int) : List Int := if l.contains n = true then l else rise l n
def freeL (b : Bk) (i : Nat) (l : Ls) : Bk := ⟨l.sl.foldl backC b.cs, addAll b.free (l.used.foldl leftI l.ids), b.ls.eraseIdx i, l.used.foldl boundI b.bound⟩
def freeS (b : Bk) (d ep : Int) : Bk × Int := if atIx b.ls d ep < 0 then (b, 2) else (freeL b (atIx b.ls d ep).toNat (b.ls.getD (atIx b.ls d ep).toNat zLs), 0)

def totS (b : Bk) (key : ByteArray) : List Int :=
  if ctIx b.cs key < 0 then [0, 0, 0, 0, 0, 0]
  else [(b.cs.getD (ctIx b.cs key).toNat zCt).up, leasedU key b.ls, (b.cs.getD (ctIx b.cs key).toNat zCt).hi - (b.cs.getD (ctIx b.cs key).toNat zCt).start - (b.cs.getD (ctIx b.cs key).toNat zCt).up - leasedU key b.ls,
    (b.cs.getD (ctIx b.cs key).toNat zCt).down, leasedD key b.ls, (b.cs.getD (ctIx b.cs key).toNat zCt).start - (b.cs.getD (ctIx b.cs key).toNat zCt).lo - (b.cs.getD (ctIx b.cs key).toNat zCt).down - leasedD key b.ls]

end Go.Proofs.Ytckonmlcgfbojaa
