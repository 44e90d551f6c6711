/- subscribe: what a packet may be: plain. -/
import Derived.Test.YtmkkjiogokfnmaaDoorMFil
import Derived.Test.YtmkkjiogokfnmaaDoorMPubA
namespace Go.Proofs.YtmkkjiogokfnmaaDoor
open Go.RowKit

def sbKnown (v k : Int) : Bool := decide ((v = 4 ∨ v = 5) ∧ 8 ≤ k ∧ k ≤ 11)
def sbAsk (k : Int) : Bool := decide (k = 8 ∨ k = 10)
def sbSil (v k : Int) : Bool := decide (k = 11 ∧ v = 4)
/-- A packet with just what its kind may have. -/
def sbQ (v : Int) (p : Pk) : Pk :=
  if sbAsk p.kind = true then { pk0 with kind := p.kind, id := p.id, props := p.props, filters := p.filters }
  else if sbSil v p.kind = true then { pk0 with kind := p.kind, id := p.id, props := p.props }
  else { pk0 with kind := p.kind, id := p.id, props := p.props, codes := p.codes }
def sbHave (v : Int) (p : Pk) : Bool := if sbAsk p.kind = true then decide (0 < p.filters.length) else if sbSil v p.kind = true then true else decide (0 < p.codes.length)
def sbFields (v : Int) (p : Pk) : Bool := !(decide (p.id < 1) || (decide (65535 < p.id) || (decide (v = 4) && decide (0 < p.props.length)))) && (sbHave v p && decide (p = sbQ v p))
def sbLow (n : Int) : Bool := decide (0 ≤ n) && decide (n < 3)
def fiPlain (f : Fi) : Bool := decide (f = ⟨f.topic, f.qos, false, false, 0⟩)
/-- May a filter's options be? -/
def optB (v k : Int) (f : Fi) : Bool :=
  if k = 10 then fiPlain f && decide (f.qos = 0) else if v = 4 then fiPlain f && sbLow f.qos else sbLow f.qos && (sbLow f.handling && !(sharedB f.topic && f.noLocal))
def ansB (v k c : Int) : Bool := if v = 4 then grantB c else may k c
def fiE (v k : Int) : List Fi → Int
  | [] => 0
  | f :: l => if filterB f.topic = false then 10 else if optB v k f = false then 2 else fiE v k l
def cdE (v k : Int) : List Int → Int
  | [] => 0
  | c :: l => if ansB v k c = false then 2 else cdE v k l
def sbArg (v : Int) (p : Pk) : Bool := sbKnown v p.kind && sbFields v p
def sbE (v : Int) (p : Pk) : Int :=
  if sbArg v p = false then 2 else if (bytesS p.kind p.props).2 ≠ 0 then (bytesS p.kind p.props).2
  else if fiE v p.kind p.filters ≠ 0 then fiE v p.kind p.filters else cdE v p.kind p.codes
/-- Does a packet answer another one? -/
def sbAns (v : Int) (p q : Pk) : Bool :=
  sbAsk p.kind && (decide (q.kind = p.kind + 1) && (decide (q.id = p.id) && (decide (sbE v p = 0) && (decide (sbE v q = 0) && (sbSil v q.kind || decide (q.codes.length = p.filters.length))))))
end Go.Proofs.YtmkkjiogokfnmaaDoor
