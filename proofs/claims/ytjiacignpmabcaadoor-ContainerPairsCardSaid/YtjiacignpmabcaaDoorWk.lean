/- One step of a walk: the operation at hand is done, whatever kind it is of. -/
import Derived.Test.YtjiacignpmabcaaDoorSh
set_option linter.unusedVariables false
namespace Go.LA
open Go.RowKit
/-- An operation that goes on in one way. -/
theorem wOp {G' G : Prop} (g : G') (h : G' → G := by
  intro h
  first
  | (refine oM ?_; first | exact LA_moveV rfl rfl h | exact LA_moveP rfl rfl h | exact LA_moveT rfl rfl h | exact LA_moveU rfl rfl h)
  | (refine oA ?_; first | exact LA_assignV rfl rfl h | exact LA_assignP rfl rfl h | exact LA_assignT rfl rfl h)
  | (refine oP ?_; first | exact LA_pickTV rfl rfl rfl h | exact LA_pickFV rfl rfl rfl h)
  | (refine oN ?_; first | exact LA_notT rfl rfl h | exact LA_notF rfl rfl h | exact LA_not rfl rfl h)
  | (refine oX ?_; first | exact LA_ext0 rfl rfl h | exact LA_ext1 rfl rfl h | exact LA_ext30 rfl rfl h | exact LA_ext31 rfl rfl h | exact LA_ext32 rfl rfl h)
  | (refine oB .add ?_; first | exact stAdd rfl rfl rfl h | exact LA_addW rfl rfl rfl h)
  | (refine oB .sub ?_; first | exact stSub rfl rfl rfl h | exact LA_subW rfl rfl rfl h)
  | (refine oB .mul ?_; first | exact stMul rfl rfl rfl h | exact LA_mulW rfl rfl rfl h)
  | (refine oB .quo ?_; exact stQuo rfl rfl rfl h)
  | (refine oB .rem ?_; exact stRem rfl rfl rfl h)
  | (refine oB _ ?_; first | exact stT rfl rfl rfl rfl h | exact stF rfl rfl rfl rfl h | exact stBET rfl rfl rfl rfl h | exact stBEF rfl rfl rfl rfl h | exact LA_boolEq rfl rfl rfl rfl h | exact stBNT rfl rfl rfl rfl h | exact stBNF rfl rfl rfl rfl h | exact LA_boolNe rfl rfl rfl rfl h)
  | (refine oI ?_; exact stIN rfl _ rfl (fun _ => rfl) rfl rfl h)
  | (refine oL ?_; exact LA_load rfl (fun _ => rfl) rfl h)
  | (refine oV ?_; first | exact stCnv rfl rfl rfl rfl h | exact LA_conv rfl rfl rfl rfl h)
  | (refine oLen ?_; exact stLen rfl _ rfl rfl h)) : G := h g
/-- A shift. -/
theorem wOpB {G' G : Prop} (g : G') (h : G' → G := by
  intro h
  first
  | (refine oB .shr ?_; exact stShr rfl rfl rfl h)
  | (refine oB .shl ?_; exact stShl rfl rfl rfl h)) : G := h g
/-- An operation whose result has a number in it that is to be reckoned out. -/
theorem wOpD {G' G : Prop} (g : G') (h : G' → G := by
  intro h
  first
  | (refine oI ?_; exact stII rfl _ rfl (fun _ => rfl) rfl rfl h)
  | (refine oS ?_; first | exact stSL rfl _ rfl rfl rfl (fun _ => rfl) h | exact stSH rfl _ rfl rfl rfl (fun _ => rfl) h | exact stSLH rfl _ rfl rfl rfl rfl (fun _ => rfl) h)) : G := h g
/-- A piece of code that goes on in one way. -/
theorem wCX {G' G : Prop} (g : G') (h : G' → G := by
  intro h
  first | exact CX_seq h | exact CX_skip h | exact CX_block h | exact CX_exit h | exact CX_ret h | exact CX_condT rfl h | exact CX_condF rfl h | exact CX_label h | exact CX_scope h) : G := h g
/-- A row of operations. -/
theorem wCR {G' G : Prop} (g : G') (h : G' → G := by
  intro h
  first | exact CX_region (by kernel_rfl) h | exact CX_regionA (by kernel_rfl) (by kernel_rfl) h) : G := h g
/-- A way out. -/
theorem wPX {G' G : Prop} (g : G') (h : G' → G := by
  intro h
  first | exact PX_then h | exact PX_thenX h | exact PX_thenR h | exact PX_blockN h | exact PX_blockR h | exact PX_blockX h | exact PX_blockO (by decide) h | exact PX_scopeN h | exact PX_scopeR h | exact PX_scopeX h) : G := h g
end Go.LA
