/- Short terms. -/
import Derived.KernelRfl
namespace Go
theorem Xo {p:Prop}(h:p:=by omega):p:=h
theorem Xk {p:Prop}(h:p:=by kernel_rfl):p:=h
theorem Xd {p:Prop}(h:p:=by decide):p:=h
theorem Xs {p:Prop}(h:p:=by simp):p:=h
abbrev Ya:=List (Int×Int×Int×Int×Int×Int×Int×Int)
abbrev Yb:=List (Int×Int×Int×Int×Int×Int×Int)
abbrev Yc:=List (Int×Int×Int×Int)
abbrev Yd:=List (Int×Int×Int)
abbrev Ye:=List (List (Int×Int))
abbrev Yf:=List (Int×Int)
abbrev Yg:=List (Int)
abbrev Yh:=List (Bool×Yd×Yd)
abbrev Yi:=List (Int×Yd×Yd)
end Go
