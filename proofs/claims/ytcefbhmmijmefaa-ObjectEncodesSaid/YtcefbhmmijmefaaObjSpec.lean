/- What layer 'object' computes, in plain Lean: which objects may be, their bytes, what bytes are an object. No program is in sight. Conditions: as each lemma names. -/
import Derived.Test.YtcefbhmmijmefaaCodeSpec
import Derived.Test.YtcefbhmmijmefaaWords2
namespace Go.Dol
set_option linter.unusedVariables false

structure Ent where
  name : ByteArray
  dir : Bool
  id : ByteArray
structure Obj where
  kind : Int
  data : List UInt8
  ents : List Ent
  tree : ByteArray
  pars : List ByteArray
  target : ByteArray
  name : ByteArray
  who : ByteArray
  stamp : Int
  text : ByteArray
def Obj.zero : Obj := ⟨0, [], [], ⟨#[]⟩, [], ⟨#[]⟩, ⟨#[]⟩, ⟨#[]⟩, 0, ⟨#[]⟩⟩

/-- May a name within a tree be? -/
def partB (s : ByteArray) : Bool := !s.data.toList.contains 0 && !s.data.toList.contains 47 && decide (1 ≤ s.size) && decide (s.size ≤ 100) && (!(s.toList == [46]) && !(s.toList == [46, 46]))
/-- An entry, behind another one or first. -/
def ordAt (ge : ByteArray → ByteArray → Bool) (l : List Ent) (nm : ByteArray) : Nat → Bool
  | 0 => true
  | j + 1 => match l[j]? with | none => true | some p => !ge p.name nm
def entAt (ge : ByteArray → ByteArray → Bool) (l : List Ent) (i : Nat) : Bool :=
  match l[i]? with
  | none => true
  | some e => partB e.name && decide (e.id.size = 32) && ordAt ge l e.name i
def entsUp (ge : ByteArray → ByteArray → Bool) (l : List Ent) (k : Nat) : Prop := ∀ i, i < k → entAt ge l i = true
def entsB (ge : ByteArray → ByteArray → Bool) (l : List Ent) : Bool := (List.range l.length).all (entAt ge l) && decide (l.length ≤ 4096)
def hasS (l : List ByteArray) (p : ByteArray) : Bool := l.any fun q => q.toList == p.toList
def parAt (l : List ByteArray) (i : Nat) : Bool :=
  match l[i]? with
  | none => true
  | some p => decide (p.size = 32) && !hasS (l.take i) p
def parsUp (l : List ByteArray) (k : Nat) : Prop := ∀ i, i < k → parAt l i = true
def parsB (l : List ByteArray) : Bool := (List.range l.length).all (parAt l) && decide (l.length ≤ 4)
def toldB (who : ByteArray) (stamp : Int) (text : ByteArray) : Bool := decide (who.size ≤ 1000) && decide (text.size ≤ 1000) && decide (0 ≤ stamp) && decide (stamp ≤ 1099511627776)
def noTold (o : Obj) : Bool := decide (o.who.size = 0) && decide (o.text.size = 0) && decide (o.stamp = 0)
def noCommit (o : Obj) : Bool := decide (o.tree.size = 0) && decide (o.pars.length = 0)
def noTag (o : Obj) : Bool := decide (o.target.size = 0) && decide (o.name.size = 0)
def noData (o : Obj) : Bool := decide (o.data.length = 0)
def noEnts (o : Obj) : Bool := decide (o.ents.length = 0)
/-- May an object be? -/
def checkB (ge : ByteArray → ByteArray → Bool) (o : Obj) : Bool :=
  if o.kind = 1 then decide (o.data.length ≤ 1048576) && (noEnts o && noCommit o && noTag o && noTold o)
  else if o.kind = 2 then entsB ge o.ents && (noData o && noCommit o && noTag o && noTold o)
  else if o.kind = 3 then decide (o.tree.size = 32) && parsB o.pars && toldB o.who o.stamp o.text && (noData o && noEnts o && noTag o)
  else if o.kind = 4 then decide (o.target.size = 32) && decide (1 ≤ o.name.size) && decide (o.name.size ≤ 200) && toldB o.who o.stamp o.text && (noData o && noEnts o && noCommit o)
  else false

/-- A text's bytes. -/
def tx (s : ByteArray) : List UInt8 := text s.data.toList
def entB (e : Ent) : List UInt8 := tx e.name ++ ((if e.dir then 1 else 0) :: e.id.data.toList)
def entsL (l : List Ent) : List UInt8 := num l.length ++ l.flatMap entB
def parsL (l : List ByteArray) : List UInt8 := num l.length ++ l.flatMap fun p => p.data.toList
def toldL (o : Obj) : List UInt8 := tx o.who ++ (num (clampN o.stamp) ++ tx o.text)
/-- An object's bytes. -/
def encO (o : Obj) : List UInt8 :=
  UInt8.ofNat o.kind.toNat ::
    (if o.kind = 1 then o.data
     else if o.kind = 2 then entsL o.ents
     else if o.kind = 3 then o.tree.data.toList ++ (parsL o.pars ++ toldL o)
     else o.target.data.toList ++ (tx o.name ++ toldL o))
/-- The ids that an object names. -/
def linksO (o : Obj) : List ByteArray :=
  if o.kind = 2 then o.ents.map (·.id) else if o.kind = 3 then o.tree :: o.pars else if o.kind = 4 then [o.target] else []
end Go.Dol
