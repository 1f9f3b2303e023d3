/- What the functions come to, as plain functions (printed by a program of ours). -/
import Derived.Test.YtkfblnnococniaaVpA
set_option maxRecDepth 100000
set_option linter.unusedVariables false
namespace Go.Vd


noncomputable def z_witness_Bounds_1 (n_ : Int) : Option (Int) :=
  some (min (max n_ 0) 1048576)

noncomputable def z_witness_Bounds (Hops : Int) (Settles : Int) (Edge : Int) (Deleted : Int) (Depth : Int) : Option (Int × Int) :=
  ((z_witness_Bounds_1 Hops).bind fun y10 => ((z_witness_Bounds_1 Settles).bind fun y15 => some (y10, y15)))

noncomputable def z_viaductref12_bound (n_ : Int) : Option (Int) :=
  some (min (max n_ 0) 1048576)

noncomputable def z_viaductref12_Bounds (Hops : Int) (Settles : Int) (Edge : Int) (Deleted : Int) (Depth : Int) : Option (Int × Int) :=
  ((z_viaductref12_bound Hops).bind fun y9 => ((z_viaductref12_bound Settles).bind fun y14 => some (y9, y14)))

noncomputable def z_viaductlaw12_WitnessBounds (Hops : Int) (Settles : Int) (Edge : Int) (Deleted : Int) (Depth : Int) : Option (Bool) :=
  ((z_witness_Bounds Hops Settles Edge Deleted Depth).bind fun y11 => ((z_viaductref12_Bounds Hops Settles Edge Deleted Depth).bind fun y18 => if y11.1 = y18.1 then (some (decide (y11.2 = y18.2))) else (some false)))

end Go.Vd
