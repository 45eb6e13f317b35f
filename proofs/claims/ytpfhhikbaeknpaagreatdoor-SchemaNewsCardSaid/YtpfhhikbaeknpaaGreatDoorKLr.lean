/- Chapter 1's Class (this text is written by gen_w2. -/
import Derived.Test.YtpfhhikbaeknpaaGreatDoorProg
import Derived.Test.YtpfhhikbaeknpaaGreatDoorKLx
import Derived.Handy
set_option maxHeartbeats 2000000
set_option maxRecDepth 1000000
set_option linter.all false
namespace Go.Proofs.YtpfhhikbaeknpaaGreatDoor
open Go.RowKit Pal
theorem ZjJ (r:Int) (w:World) (h1:48≤r) (h2:r≤57) :
 Calls Tryz.prog 87 #[.int .i32 r] w fun e w'=>e = .returned (.int .i64 (cls01 r))∧w'=w:=by
 have E:cls01 r=2:=by
  unfold cls01
  repeat' split
  all_goals omega
 rw [E]; clear E
 have g48:48≤r:=by omega
 have g97:¬ 97≤r:=by omega
 have g65:¬ 65≤r:=by omega
 have g192:¬ 192≤r:=by omega
 have g913:¬ 913≤r:=by omega
 have g945:¬ 945≤r:=by omega
 have g1040:¬ 1040≤r:=by omega
 have g19968:¬ 19968≤r:=by omega
 have l57:r≤57:=by omega
 have l122:r≤122:=by omega
 have l90:r≤90:=by omega
 have l591:r≤591:=by omega
 have l937:r≤937:=by omega
 have l969:r≤969:=by omega
 have l1103:r≤1103:=by omega
 have l40959:r≤40959:=by omega
 have e9:(r == 9)=false:=Zr (by omega)
 have e10:(r == 10)=false:=Zr (by omega)
 have e13:(r == 13)=false:=Zr (by omega)
 have e32:(r == 32)=false:=Zr (by omega)
 have e160:(r == 160)=false:=Zr (by omega)
 have e12288:(r == 12288)=false:=Zr (by omega)
 have e95:(r == 95)=false:=Zr (by omega)
 have e170:(r == 170)=false:=Zr (by omega)
 have e181:(r == 181)=false:=Zr (by omega)
 have e186:(r == 186)=false:=Zr (by omega)
 have e215:(r == 215)=false:=Zr (by omega)
 have e247:(r == 247)=false:=Zr (by omega)
 have e930:(r == 930)=false:=Zr (by omega)
 have m215:(r != 215)=true:=bne_iff_ne.2 (by omega)
 have m247:(r != 247)=true:=bne_iff_ne.2 (by omega)
 have m930:(r != 930)=true:=bne_iff_ne.2 (by omega)
 clear h1 h2 
 go_in
 go_wp2
 go_ret
 exact ⟨rfl,rfl⟩
theorem ZjK (w:World) :
 Calls Tryz.prog 87 #[.int .i32 9] w fun e w'=>e = .returned (.int .i64 (cls01 9))∧w'=w:=by
 have E:cls01 9=3:=by decide
 rw [E]
 go_in
 go_wp2
 go_ret
 exact ⟨rfl,rfl⟩
theorem ZjL (w:World) :
 Calls Tryz.prog 87 #[.int .i32 10] w fun e w'=>e = .returned (.int .i64 (cls01 10))∧w'=w:=by
 have E:cls01 10=3:=by decide
 rw [E]
 go_in
 go_wp2
 go_ret
 exact ⟨rfl,rfl⟩
theorem ZjM (w:World) :
 Calls Tryz.prog 87 #[.int .i32 13] w fun e w'=>e = .returned (.int .i64 (cls01 13))∧w'=w:=by
 have E:cls01 13=3:=by decide
 rw [E]
 go_in
 go_wp2
 go_ret
 exact ⟨rfl,rfl⟩
theorem ZjN (w:World) :
 Calls Tryz.prog 87 #[.int .i32 32] w fun e w'=>e = .returned (.int .i64 (cls01 32))∧w'=w:=by
 have E:cls01 32=3:=by decide
 rw [E]
 go_in
 go_wp2
 go_ret
 exact ⟨rfl,rfl⟩
theorem ZjO (w:World) :
 Calls Tryz.prog 87 #[.int .i32 160] w fun e w'=>e = .returned (.int .i64 (cls01 160))∧w'=w:=by
 have E:cls01 160=3:=by decide
 rw [E]
 go_in
 go_wp2
 go_ret
 exact ⟨rfl,rfl⟩
theorem ZjP (w:World) :
 Calls Tryz.prog 87 #[.int .i32 12288] w fun e w'=>e = .returned (.int .i64 (cls01 12288))∧w'=w:=by
 have E:cls01 12288=3:=by decide
 rw [E]
 go_in
 go_wp2
 go_ret
 exact ⟨rfl,rfl⟩
theorem ZjQ (r:Int) (w:World) (h1:97≤r) (h2:r≤122) :
 Calls Tryz.prog 87 #[.int .i32 r] w fun e w'=>e = .returned (.int .i64 (cls01 r))∧w'=w:=by
 have E:cls01 r=1:=by
  unfold cls01
  repeat' split
  all_goals omega
 rw [E]; clear E
 have g48:48≤r:=by omega
 have g97:97≤r:=by omega
 have g65:65≤r:=by omega
 have g192:¬ 192≤r:=by omega
 have g913:¬ 913≤r:=by omega
 have g945:¬ 945≤r:=by omega
 have g1040:¬ 1040≤r:=by omega
 have g19968:¬ 19968≤r:=by omega
 have l57:¬ r≤57:=by omega
 have l122:r≤122:=by omega
 have l90:¬ r≤90:=by omega
 have l591:r≤591:=by omega
 have l937:r≤937:=by omega
 have l969:r≤969:=by omega
 have l1103:r≤1103:=by omega
 have l40959:r≤40959:=by omega
 have e9:(r == 9)=false:=Zr (by omega)
 have e10:(r == 10)=false:=Zr (by omega)
 have e13:(r == 13)=false:=Zr (by omega)
 have e32:(r == 32)=false:=Zr (by omega)
 have e160:(r == 160)=false:=Zr (by omega)
 have e12288:(r == 12288)=false:=Zr (by omega)
 have e95:(r == 95)=false:=Zr (by omega)
 have e170:(r == 170)=false:=Zr (by omega)
 have e181:(r == 181)=false:=Zr (by omega)
 have e186:(r == 186)=false:=Zr (by omega)
 have e215:(r == 215)=false:=Zr (by omega)
 have e247:(r == 247)=false:=Zr (by omega)
 have e930:(r == 930)=false:=Zr (by omega)
 have m215:(r != 215)=true:=bne_iff_ne.2 (by omega)
 have m247:(r != 247)=true:=bne_iff_ne.2 (by omega)
 have m930:(r != 930)=true:=bne_iff_ne.2 (by omega)
 clear h1 h2 
 go_in
 go_wp2
 go_ret
 exact ⟨rfl,rfl⟩
theorem ZjR (r:Int) (w:World) (h1:65≤r) (h2:r≤90) :
 Calls Tryz.prog 87 #[.int .i32 r] w fun e w'=>e = .returned (.int .i64 (cls01 r))∧w'=w:=by
 have E:cls01 r=1:=by
  unfold cls01
  repeat' split
  all_goals omega
 rw [E]; clear E
 have g48:48≤r:=by omega
 have g97:¬ 97≤r:=by omega
 have g65:65≤r:=by omega
 have g192:¬ 192≤r:=by omega
 have g913:¬ 913≤r:=by omega
 have g945:¬ 945≤r:=by omega
 have g1040:¬ 1040≤r:=by omega
 have g19968:¬ 19968≤r:=by omega
 have l57:¬ r≤57:=by omega
 have l122:r≤122:=by omega
 have l90:r≤90:=by omega
 have l591:r≤591:=by omega
 have l937:r≤937:=by omega
 have l969:r≤969:=by omega
 have l1103:r≤1103:=by omega
 have l40959:r≤40959:=by omega
 have e9:(r == 9)=false:=Zr (by omega)
 have e10:(r == 10)=false:=Zr (by omega)
 have e13:(r == 13)=false:=Zr (by omega)
 have e32:(r == 32)=false:=Zr (by omega)
 have e160:(r == 160)=false:=Zr (by omega)
 have e12288:(r == 12288)=false:=Zr (by omega)
 have e95:(r == 95)=false:=Zr (by omega)
 have e170:(r == 170)=false:=Zr (by omega)
 have e181:(r == 181)=false:=Zr (by omega)
 have e186:(r == 186)=false:=Zr (by omega)
 have e215:(r == 215)=false:=Zr (by omega)
 have e247:(r == 247)=false:=Zr (by omega)
 have e930:(r == 930)=false:=Zr (by omega)
 have m215:(r != 215)=true:=bne_iff_ne.2 (by omega)
 have m247:(r != 247)=true:=bne_iff_ne.2 (by omega)
 have m930:(r != 930)=true:=bne_iff_ne.2 (by omega)
 clear h1 h2 
 go_in
 go_wp2
 go_ret
 exact ⟨rfl,rfl⟩
theorem ZjS (w:World) :
 Calls Tryz.prog 87 #[.int .i32 95] w fun e w'=>e = .returned (.int .i64 (cls01 95))∧w'=w:=by
 have E:cls01 95=1:=by decide
 rw [E]
 go_in
 go_wp2
 go_ret
 exact ⟨rfl,rfl⟩
theorem ZjT (w:World) :
 Calls Tryz.prog 87 #[.int .i32 170] w fun e w'=>e = .returned (.int .i64 (cls01 170))∧w'=w:=by
 have E:cls01 170=1:=by decide
 rw [E]
 go_in
 go_wp2
 go_ret
 exact ⟨rfl,rfl⟩
theorem ZjU (w:World) :
 Calls Tryz.prog 87 #[.int .i32 181] w fun e w'=>e = .returned (.int .i64 (cls01 181))∧w'=w:=by
 have E:cls01 181=1:=by decide
 rw [E]
 go_in
 go_wp2
 go_ret
 exact ⟨rfl,rfl⟩
theorem ZjV (w:World) :
 Calls Tryz.prog 87 #[.int .i32 186] w fun e w'=>e = .returned (.int .i64 (cls01 186))∧w'=w:=by
 have E:cls01 186=1:=by decide
 rw [E]
 go_in
 go_wp2
 go_ret
 exact ⟨rfl,rfl⟩
theorem ZjW (r:Int) (w:World) (h1:192≤r) (h2:r≤214) :
 Calls Tryz.prog 87 #[.int .i32 r] w fun e w'=>e = .returned (.int .i64 (cls01 r))∧w'=w:=by
 have E:cls01 r=1:=by
  unfold cls01
  repeat' split
  all_goals omega
 rw [E]; clear E
 have g48:48≤r:=by omega
 have g97:97≤r:=by omega
 have g65:65≤r:=by omega
 have g192:192≤r:=by omega
 have g913:¬ 913≤r:=by omega
 have g945:¬ 945≤r:=by omega
 have g1040:¬ 1040≤r:=by omega
 have g19968:¬ 19968≤r:=by omega
 have l57:¬ r≤57:=by omega
 have l122:¬ r≤122:=by omega
 have l90:¬ r≤90:=by omega
 have l591:r≤591:=by omega
 have l937:r≤937:=by omega
 have l969:r≤969:=by omega
 have l1103:r≤1103:=by omega
 have l40959:r≤40959:=by omega
 have e9:(r == 9)=false:=Zr (by omega)
 have e10:(r == 10)=false:=Zr (by omega)
 have e13:(r == 13)=false:=Zr (by omega)
 have e32:(r == 32)=false:=Zr (by omega)
 have e160:(r == 160)=false:=Zr (by omega)
 have e12288:(r == 12288)=false:=Zr (by omega)
 have e95:(r == 95)=false:=Zr (by omega)
 have e170:(r == 170)=false:=Zr (by omega)
 have e181:(r == 181)=false:=Zr (by omega)
 have e186:(r == 186)=false:=Zr (by omega)
 have e215:(r == 215)=false:=Zr (by omega)
 have e247:(r == 247)=false:=Zr (by omega)
 have e930:(r == 930)=false:=Zr (by omega)
 have m215:(r != 215)=true:=bne_iff_ne.2 (by omega)
 have m247:(r != 247)=true:=bne_iff_ne.2 (by omega)
 have m930:(r != 930)=true:=bne_iff_ne.2 (by omega)
 clear h1 h2 
 go_in
 go_wp2
 go_ret
 exact ⟨rfl,rfl⟩
theorem ZjX (r:Int) (w:World) (h1:216≤r) (h2:r≤246) :
 Calls Tryz.prog 87 #[.int .i32 r] w fun e w'=>e = .returned (.int .i64 (cls01 r))∧w'=w:=by
 have E:cls01 r=1:=by
  unfold cls01
  repeat' split
  all_goals omega
 rw [E]; clear E
 have g48:48≤r:=by omega
 have g97:97≤r:=by omega
 have g65:65≤r:=by omega
 have g192:192≤r:=by omega
 have g913:¬ 913≤r:=by omega
 have g945:¬ 945≤r:=by omega
 have g1040:¬ 1040≤r:=by omega
 have g19968:¬ 19968≤r:=by omega
 have l57:¬ r≤57:=by omega
 have l122:¬ r≤122:=by omega
 have l90:¬ r≤90:=by omega
 have l591:r≤591:=by omega
 have l937:r≤937:=by omega
 have l969:r≤969:=by omega
 have l1103:r≤1103:=by omega
 have l40959:r≤40959:=by omega
 have e9:(r == 9)=false:=Zr (by omega)
 have e10:(r == 10)=false:=Zr (by omega)
 have e13:(r == 13)=false:=Zr (by omega)
 have e32:(r == 32)=false:=Zr (by omega)
 have e160:(r == 160)=false:=Zr (by omega)
 have e12288:(r == 12288)=false:=Zr (by omega)
 have e95:(r == 95)=false:=Zr (by omega)
 have e170:(r == 170)=false:=Zr (by omega)
 have e181:(r == 181)=false:=Zr (by omega)
 have e186:(r == 186)=false:=Zr (by omega)
 have e215:(r == 215)=false:=Zr (by omega)
 have e247:(r == 247)=false:=Zr (by omega)
 have e930:(r == 930)=false:=Zr (by omega)
 have m215:(r != 215)=true:=bne_iff_ne.2 (by omega)
 have m247:(r != 247)=true:=bne_iff_ne.2 (by omega)
 have m930:(r != 930)=true:=bne_iff_ne.2 (by omega)
 clear h1 h2 
 go_in
 go_wp2
 go_ret
 exact ⟨rfl,rfl⟩
theorem ZjY (r:Int) (w:World) (h1:248≤r) (h2:r≤591) :
 Calls Tryz.prog 87 #[.int .i32 r] w fun e w'=>e = .returned (.int .i64 (cls01 r))∧w'=w:=by
 have E:cls01 r=1:=by
  unfold cls01
  repeat' split
  all_goals omega
 rw [E]; clear E
 have g48:48≤r:=by omega
 have g97:97≤r:=by omega
 have g65:65≤r:=by omega
 have g192:192≤r:=by omega
 have g913:¬ 913≤r:=by omega
 have g945:¬ 945≤r:=by omega
 have g1040:¬ 1040≤r:=by omega
 have g19968:¬ 19968≤r:=by omega
 have l57:¬ r≤57:=by omega
 have l122:¬ r≤122:=by omega
 have l90:¬ r≤90:=by omega
 have l591:r≤591:=by omega
 have l937:r≤937:=by omega
 have l969:r≤969:=by omega
 have l1103:r≤1103:=by omega
 have l40959:r≤40959:=by omega
 have e9:(r == 9)=false:=Zr (by omega)
 have e10:(r == 10)=false:=Zr (by omega)
 have e13:(r == 13)=false:=Zr (by omega)
 have e32:(r == 32)=false:=Zr (by omega)
 have e160:(r == 160)=false:=Zr (by omega)
 have e12288:(r == 12288)=false:=Zr (by omega)
 have e95:(r == 95)=false:=Zr (by omega)
 have e170:(r == 170)=false:=Zr (by omega)
 have e181:(r == 181)=false:=Zr (by omega)
 have e186:(r == 186)=false:=Zr (by omega)
 have e215:(r == 215)=false:=Zr (by omega)
 have e247:(r == 247)=false:=Zr (by omega)
 have e930:(r == 930)=false:=Zr (by omega)
 have m215:(r != 215)=true:=bne_iff_ne.2 (by omega)
 have m247:(r != 247)=true:=bne_iff_ne.2 (by omega)
 have m930:(r != 930)=true:=bne_iff_ne.2 (by omega)
 clear h1 h2 
 go_in
 go_wp2
 go_ret
 exact ⟨rfl,rfl⟩
theorem ZjZ (r:Int) (w:World) (h1:913≤r) (h2:r≤929) :
 Calls Tryz.prog 87 #[.int .i32 r] w fun e w'=>e = .returned (.int .i64 (cls01 r))∧w'=w:=by
 have E:cls01 r=1:=by
  unfold cls01
  repeat' split
  all_goals omega
 rw [E]; clear E
 have g48:48≤r:=by omega
 have g97:97≤r:=by omega
 have g65:65≤r:=by omega
 have g192:192≤r:=by omega
 have g913:913≤r:=by omega
 have g945:¬ 945≤r:=by omega
 have g1040:¬ 1040≤r:=by omega
 have g19968:¬ 19968≤r:=by omega
 have l57:¬ r≤57:=by omega
 have l122:¬ r≤122:=by omega
 have l90:¬ r≤90:=by omega
 have l591:¬ r≤591:=by omega
 have l937:r≤937:=by omega
 have l969:r≤969:=by omega
 have l1103:r≤1103:=by omega
 have l40959:r≤40959:=by omega
 have e9:(r == 9)=false:=Zr (by omega)
 have e10:(r == 10)=false:=Zr (by omega)
 have e13:(r == 13)=false:=Zr (by omega)
 have e32:(r == 32)=false:=Zr (by omega)
 have e160:(r == 160)=false:=Zr (by omega)
 have e12288:(r == 12288)=false:=Zr (by omega)
 have e95:(r == 95)=false:=Zr (by omega)
 have e170:(r == 170)=false:=Zr (by omega)
 have e181:(r == 181)=false:=Zr (by omega)
 have e186:(r == 186)=false:=Zr (by omega)
 have e215:(r == 215)=false:=Zr (by omega)
 have e247:(r == 247)=false:=Zr (by omega)
 have e930:(r == 930)=false:=Zr (by omega)
 have m215:(r != 215)=true:=bne_iff_ne.2 (by omega)
 have m247:(r != 247)=true:=bne_iff_ne.2 (by omega)
 have m930:(r != 930)=true:=bne_iff_ne.2 (by omega)
 clear h1 h2 
 go_in
 go_wp2
 go_ret
 exact ⟨rfl,rfl⟩
theorem Zj0 (r:Int) (w:World) (h1:931≤r) (h2:r≤937) :
 Calls Tryz.prog 87 #[.int .i32 r] w fun e w'=>e = .returned (.int .i64 (cls01 r))∧w'=w:=by
 have E:cls01 r=1:=by
  unfold cls01
  repeat' split
  all_goals omega
 rw [E]; clear E
 have g48:48≤r:=by omega
 have g97:97≤r:=by omega
 have g65:65≤r:=by omega
 have g192:192≤r:=by omega
 have g913:913≤r:=by omega
 have g945:¬ 945≤r:=by omega
 have g1040:¬ 1040≤r:=by omega
 have g19968:¬ 19968≤r:=by omega
 have l57:¬ r≤57:=by omega
 have l122:¬ r≤122:=by omega
 have l90:¬ r≤90:=by omega
 have l591:¬ r≤591:=by omega
 have l937:r≤937:=by omega
 have l969:r≤969:=by omega
 have l1103:r≤1103:=by omega
 have l40959:r≤40959:=by omega
 have e9:(r == 9)=false:=Zr (by omega)
 have e10:(r == 10)=false:=Zr (by omega)
 have e13:(r == 13)=false:=Zr (by omega)
 have e32:(r == 32)=false:=Zr (by omega)
 have e160:(r == 160)=false:=Zr (by omega)
 have e12288:(r == 12288)=false:=Zr (by omega)
 have e95:(r == 95)=false:=Zr (by omega)
 have e170:(r == 170)=false:=Zr (by omega)
 have e181:(r == 181)=false:=Zr (by omega)
 have e186:(r == 186)=false:=Zr (by omega)
 have e215:(r == 215)=false:=Zr (by omega)
 have e247:(r == 247)=false:=Zr (by omega)
 have e930:(r == 930)=false:=Zr (by omega)
 have m215:(r != 215)=true:=bne_iff_ne.2 (by omega)
 have m247:(r != 247)=true:=bne_iff_ne.2 (by omega)
 have m930:(r != 930)=true:=bne_iff_ne.2 (by omega)
 clear h1 h2 
 go_in
 go_wp2
 go_ret
 exact ⟨rfl,rfl⟩
theorem Zj1 (r:Int) (w:World) (h1:945≤r) (h2:r≤969) :
 Calls Tryz.prog 87 #[.int .i32 r] w fun e w'=>e = .returned (.int .i64 (cls01 r))∧w'=w:=by
 have E:cls01 r=1:=by
  unfold cls01
  repeat' split
  all_goals omega
 rw [E]; clear E
 have g48:48≤r:=by omega
 have g97:97≤r:=by omega
 have g65:65≤r:=by omega
 have g192:192≤r:=by omega
 have g913:913≤r:=by omega
 have g945:945≤r:=by omega
 have g1040:¬ 1040≤r:=by omega
 have g19968:¬ 19968≤r:=by omega
 have l57:¬ r≤57:=by omega
 have l122:¬ r≤122:=by omega
 have l90:¬ r≤90:=by omega
 have l591:¬ r≤591:=by omega
 have l937:¬ r≤937:=by omega
 have l969:r≤969:=by omega
 have l1103:r≤1103:=by omega
 have l40959:r≤40959:=by omega
 have e9:(r == 9)=false:=Zr (by omega)
 have e10:(r == 10)=false:=Zr (by omega)
 have e13:(r == 13)=false:=Zr (by omega)
 have e32:(r == 32)=false:=Zr (by omega)
 have e160:(r == 160)=false:=Zr (by omega)
 have e12288:(r == 12288)=false:=Zr (by omega)
 have e95:(r == 95)=false:=Zr (by omega)
 have e170:(r == 170)=false:=Zr (by omega)
 have e181:(r == 181)=false:=Zr (by omega)
 have e186:(r == 186)=false:=Zr (by omega)
 have e215:(r == 215)=false:=Zr (by omega)
 have e247:(r == 247)=false:=Zr (by omega)
 have e930:(r == 930)=false:=Zr (by omega)
 have m215:(r != 215)=true:=bne_iff_ne.2 (by omega)
 have m247:(r != 247)=true:=bne_iff_ne.2 (by omega)
 have m930:(r != 930)=true:=bne_iff_ne.2 (by omega)
 clear h1 h2 
 go_in
 go_wp2
 go_ret
 exact ⟨rfl,rfl⟩
theorem Zj2 (r:Int) (w:World) (h1:1040≤r) (h2:r≤1103) :
 Calls Tryz.prog 87 #[.int .i32 r] w fun e w'=>e = .returned (.int .i64 (cls01 r))∧w'=w:=by
 have E:cls01 r=1:=by
  unfold cls01
  repeat' split
  all_goals omega
 rw [E]; clear E
 have g48:48≤r:=by omega
 have g97:97≤r:=by omega
 have g65:65≤r:=by omega
 have g192:192≤r:=by omega
 have g913:913≤r:=by omega
 have g945:945≤r:=by omega
 have g1040:1040≤r:=by omega
 have g19968:¬ 19968≤r:=by omega
 have l57:¬ r≤57:=by omega
 have l122:¬ r≤122:=by omega
 have l90:¬ r≤90:=by omega
 have l591:¬ r≤591:=by omega
 have l937:¬ r≤937:=by omega
 have l969:¬ r≤969:=by omega
 have l1103:r≤1103:=by omega
 have l40959:r≤40959:=by omega
 have e9:(r == 9)=false:=Zr (by omega)
 have e10:(r == 10)=false:=Zr (by omega)
 have e13:(r == 13)=false:=Zr (by omega)
 have e32:(r == 32)=false:=Zr (by omega)
 have e160:(r == 160)=false:=Zr (by omega)
 have e12288:(r == 12288)=false:=Zr (by omega)
 have e95:(r == 95)=false:=Zr (by omega)
 have e170:(r == 170)=false:=Zr (by omega)
 have e181:(r == 181)=false:=Zr (by omega)
 have e186:(r == 186)=false:=Zr (by omega)
 have e215:(r == 215)=false:=Zr (by omega)
 have e247:(r == 247)=false:=Zr (by omega)
 have e930:(r == 930)=false:=Zr (by omega)
 have m215:(r != 215)=true:=bne_iff_ne.2 (by omega)
 have m247:(r != 247)=true:=bne_iff_ne.2 (by omega)
 have m930:(r != 930)=true:=bne_iff_ne.2 (by omega)
 clear h1 h2 
 go_in
 go_wp2
 go_ret
 exact ⟨rfl,rfl⟩
theorem Zj3 (r:Int) (w:World) (h1:19968≤r) (h2:r≤40959) :
 Calls Tryz.prog 87 #[.int .i32 r] w fun e w'=>e = .returned (.int .i64 (cls01 r))∧w'=w:=by
 have E:cls01 r=1:=by
  unfold cls01
  repeat' split
  all_goals omega
 rw [E]; clear E
 have g48:48≤r:=by omega
 have g97:97≤r:=by omega
 have g65:65≤r:=by omega
 have g192:192≤r:=by omega
 have g913:913≤r:=by omega
 have g945:945≤r:=by omega
 have g1040:1040≤r:=by omega
 have g19968:19968≤r:=by omega
 have l57:¬ r≤57:=by omega
 have l122:¬ r≤122:=by omega
 have l90:¬ r≤90:=by omega
 have l591:¬ r≤591:=by omega
 have l937:¬ r≤937:=by omega
 have l969:¬ r≤969:=by omega
 have l1103:¬ r≤1103:=by omega
 have l40959:r≤40959:=by omega
 have e9:(r == 9)=false:=Zr (by omega)
 have e10:(r == 10)=false:=Zr (by omega)
 have e13:(r == 13)=false:=Zr (by omega)
 have e32:(r == 32)=false:=Zr (by omega)
 have e160:(r == 160)=false:=Zr (by omega)
 have e12288:(r == 12288)=false:=Zr (by omega)
 have e95:(r == 95)=false:=Zr (by omega)
 have e170:(r == 170)=false:=Zr (by omega)
 have e181:(r == 181)=false:=Zr (by omega)
 have e186:(r == 186)=false:=Zr (by omega)
 have e215:(r == 215)=false:=Zr (by omega)
 have e247:(r == 247)=false:=Zr (by omega)
 have e930:(r == 930)=false:=Zr (by omega)
 have m215:(r != 215)=true:=bne_iff_ne.2 (by omega)
 have m247:(r != 247)=true:=bne_iff_ne.2 (by omega)
 have m930:(r != 930)=true:=bne_iff_ne.2 (by omega)
 clear h1 h2 
 go_in
 go_wp2
 go_ret
 exact ⟨rfl,rfl⟩
theorem Zj4 (r:Int) (w:World) (h1 : -2147483648≤r) (h2:r≤47) (n9:r≠9) (n10:r≠10) (n13:r≠13) (n32:r≠32):
 Calls Tryz.prog 87 #[.int .i32 r] w fun e w'=>e = .returned (.int .i64 (cls01 r))∧w'=w:=by
 have E:cls01 r=0:=by
  unfold cls01
  repeat' split
  all_goals omega
 rw [E]; clear E
 have g48:¬ 48≤r:=by omega
 have g97:¬ 97≤r:=by omega
 have g65:¬ 65≤r:=by omega
 have g192:¬ 192≤r:=by omega
 have g913:¬ 913≤r:=by omega
 have g945:¬ 945≤r:=by omega
 have g1040:¬ 1040≤r:=by omega
 have g19968:¬ 19968≤r:=by omega
 have l57:r≤57:=by omega
 have l122:r≤122:=by omega
 have l90:r≤90:=by omega
 have l591:r≤591:=by omega
 have l937:r≤937:=by omega
 have l969:r≤969:=by omega
 have l1103:r≤1103:=by omega
 have l40959:r≤40959:=by omega
 have e9:(r == 9)=false:=Zr (by omega)
 have e10:(r == 10)=false:=Zr (by omega)
 have e13:(r == 13)=false:=Zr (by omega)
 have e32:(r == 32)=false:=Zr (by omega)
 have e160:(r == 160)=false:=Zr (by omega)
 have e12288:(r == 12288)=false:=Zr (by omega)
 have e95:(r == 95)=false:=Zr (by omega)
 have e170:(r == 170)=false:=Zr (by omega)
 have e181:(r == 181)=false:=Zr (by omega)
 have e186:(r == 186)=false:=Zr (by omega)
 have e215:(r == 215)=false:=Zr (by omega)
 have e247:(r == 247)=false:=Zr (by omega)
 have e930:(r == 930)=false:=Zr (by omega)
 have m215:(r != 215)=true:=bne_iff_ne.2 (by omega)
 have m247:(r != 247)=true:=bne_iff_ne.2 (by omega)
 have m930:(r != 930)=true:=bne_iff_ne.2 (by omega)
 clear h1 h2 n9 n10 n13 n32
 go_in
 go_wp2
 go_ret
 exact ⟨rfl,rfl⟩
theorem Zj5 (r:Int) (w:World) (h1:58≤r) (h2:r≤64) :
 Calls Tryz.prog 87 #[.int .i32 r] w fun e w'=>e = .returned (.int .i64 (cls01 r))∧w'=w:=by
 have E:cls01 r=0:=by
  unfold cls01
  repeat' split
  all_goals omega
 rw [E]; clear E
 have g48:48≤r:=by omega
 have g97:¬ 97≤r:=by omega
 have g65:¬ 65≤r:=by omega
 have g192:¬ 192≤r:=by omega
 have g913:¬ 913≤r:=by omega
 have g945:¬ 945≤r:=by omega
 have g1040:¬ 1040≤r:=by omega
 have g19968:¬ 19968≤r:=by omega
 have l57:¬ r≤57:=by omega
 have l122:r≤122:=by omega
 have l90:r≤90:=by omega
 have l591:r≤591:=by omega
 have l937:r≤937:=by omega
 have l969:r≤969:=by omega
 have l1103:r≤1103:=by omega
 have l40959:r≤40959:=by omega
 have e9:(r == 9)=false:=Zr (by omega)
 have e10:(r == 10)=false:=Zr (by omega)
 have e13:(r == 13)=false:=Zr (by omega)
 have e32:(r == 32)=false:=Zr (by omega)
 have e160:(r == 160)=false:=Zr (by omega)
 have e12288:(r == 12288)=false:=Zr (by omega)
 have e95:(r == 95)=false:=Zr (by omega)
 have e170:(r == 170)=false:=Zr (by omega)
 have e181:(r == 181)=false:=Zr (by omega)
 have e186:(r == 186)=false:=Zr (by omega)
 have e215:(r == 215)=false:=Zr (by omega)
 have e247:(r == 247)=false:=Zr (by omega)
 have e930:(r == 930)=false:=Zr (by omega)
 have m215:(r != 215)=true:=bne_iff_ne.2 (by omega)
 have m247:(r != 247)=true:=bne_iff_ne.2 (by omega)
 have m930:(r != 930)=true:=bne_iff_ne.2 (by omega)
 clear h1 h2 
 go_in
 go_wp2
 go_ret
 exact ⟨rfl,rfl⟩
theorem Zj6 (r:Int) (w:World) (h1:91≤r) (h2:r≤96) (n95:r≠95):
 Calls Tryz.prog 87 #[.int .i32 r] w fun e w'=>e = .returned (.int .i64 (cls01 r))∧w'=w:=by
 have E:cls01 r=0:=by
  unfold cls01
  repeat' split
  all_goals omega
 rw [E]; clear E
 have g48:48≤r:=by omega
 have g97:¬ 97≤r:=by omega
 have g65:65≤r:=by omega
 have g192:¬ 192≤r:=by omega
 have g913:¬ 913≤r:=by omega
 have g945:¬ 945≤r:=by omega
 have g1040:¬ 1040≤r:=by omega
 have g19968:¬ 19968≤r:=by omega
 have l57:¬ r≤57:=by omega
 have l122:r≤122:=by omega
 have l90:¬ r≤90:=by omega
 have l591:r≤591:=by omega
 have l937:r≤937:=by omega
 have l969:r≤969:=by omega
 have l1103:r≤1103:=by omega
 have l40959:r≤40959:=by omega
 have e9:(r == 9)=false:=Zr (by omega)
 have e10:(r == 10)=false:=Zr (by omega)
 have e13:(r == 13)=false:=Zr (by omega)
 have e32:(r == 32)=false:=Zr (by omega)
 have e160:(r == 160)=false:=Zr (by omega)
 have e12288:(r == 12288)=false:=Zr (by omega)
 have e95:(r == 95)=false:=Zr (by omega)
 have e170:(r == 170)=false:=Zr (by omega)
 have e181:(r == 181)=false:=Zr (by omega)
 have e186:(r == 186)=false:=Zr (by omega)
 have e215:(r == 215)=false:=Zr (by omega)
 have e247:(r == 247)=false:=Zr (by omega)
 have e930:(r == 930)=false:=Zr (by omega)
 have m215:(r != 215)=true:=bne_iff_ne.2 (by omega)
 have m247:(r != 247)=true:=bne_iff_ne.2 (by omega)
 have m930:(r != 930)=true:=bne_iff_ne.2 (by omega)
 clear h1 h2 n95
 go_in
 go_wp2
 go_ret
 exact ⟨rfl,rfl⟩
theorem Zj7 (r:Int) (w:World) (h1:123≤r) (h2:r≤191) (n160:r≠160) (n170:r≠170) (n181:r≠181) (n186:r≠186):
 Calls Tryz.prog 87 #[.int .i32 r] w fun e w'=>e = .returned (.int .i64 (cls01 r))∧w'=w:=by
 have E:cls01 r=0:=by
  unfold cls01
  repeat' split
  all_goals omega
 rw [E]; clear E
 have g48:48≤r:=by omega
 have g97:97≤r:=by omega
 have g65:65≤r:=by omega
 have g192:¬ 192≤r:=by omega
 have g913:¬ 913≤r:=by omega
 have g945:¬ 945≤r:=by omega
 have g1040:¬ 1040≤r:=by omega
 have g19968:¬ 19968≤r:=by omega
 have l57:¬ r≤57:=by omega
 have l122:¬ r≤122:=by omega
 have l90:¬ r≤90:=by omega
 have l591:r≤591:=by omega
 have l937:r≤937:=by omega
 have l969:r≤969:=by omega
 have l1103:r≤1103:=by omega
 have l40959:r≤40959:=by omega
 have e9:(r == 9)=false:=Zr (by omega)
 have e10:(r == 10)=false:=Zr (by omega)
 have e13:(r == 13)=false:=Zr (by omega)
 have e32:(r == 32)=false:=Zr (by omega)
 have e160:(r == 160)=false:=Zr (by omega)
 have e12288:(r == 12288)=false:=Zr (by omega)
 have e95:(r == 95)=false:=Zr (by omega)
 have e170:(r == 170)=false:=Zr (by omega)
 have e181:(r == 181)=false:=Zr (by omega)
 have e186:(r == 186)=false:=Zr (by omega)
 have e215:(r == 215)=false:=Zr (by omega)
 have e247:(r == 247)=false:=Zr (by omega)
 have e930:(r == 930)=false:=Zr (by omega)
 have m215:(r != 215)=true:=bne_iff_ne.2 (by omega)
 have m247:(r != 247)=true:=bne_iff_ne.2 (by omega)
 have m930:(r != 930)=true:=bne_iff_ne.2 (by omega)
 clear h1 h2 n160 n170 n181 n186
 go_in
 go_wp2
 go_ret
 exact ⟨rfl,rfl⟩
theorem Zj8 (w:World) :
 Calls Tryz.prog 87 #[.int .i32 215] w fun e w'=>e = .returned (.int .i64 (cls01 215))∧w'=w:=by
 have E:cls01 215=0:=by decide
 rw [E]
 go_in
 go_wp2
 go_ret
 exact ⟨rfl,rfl⟩
theorem Zj9 (w:World) :
 Calls Tryz.prog 87 #[.int .i32 247] w fun e w'=>e = .returned (.int .i64 (cls01 247))∧w'=w:=by
 have E:cls01 247=0:=by decide
 rw [E]
 go_in
 go_wp2
 go_ret
 exact ⟨rfl,rfl⟩
theorem Zka (r:Int) (w:World) (h1:592≤r) (h2:r≤912) :
 Calls Tryz.prog 87 #[.int .i32 r] w fun e w'=>e = .returned (.int .i64 (cls01 r))∧w'=w:=by
 have E:cls01 r=0:=by
  unfold cls01
  repeat' split
  all_goals omega
 rw [E]; clear E
 have g48:48≤r:=by omega
 have g97:97≤r:=by omega
 have g65:65≤r:=by omega
 have g192:192≤r:=by omega
 have g913:¬ 913≤r:=by omega
 have g945:¬ 945≤r:=by omega
 have g1040:¬ 1040≤r:=by omega
 have g19968:¬ 19968≤r:=by omega
 have l57:¬ r≤57:=by omega
 have l122:¬ r≤122:=by omega
 have l90:¬ r≤90:=by omega
 have l591:¬ r≤591:=by omega
 have l937:r≤937:=by omega
 have l969:r≤969:=by omega
 have l1103:r≤1103:=by omega
 have l40959:r≤40959:=by omega
 have e9:(r == 9)=false:=Zr (by omega)
 have e10:(r == 10)=false:=Zr (by omega)
 have e13:(r == 13)=false:=Zr (by omega)
 have e32:(r == 32)=false:=Zr (by omega)
 have e160:(r == 160)=false:=Zr (by omega)
 have e12288:(r == 12288)=false:=Zr (by omega)
 have e95:(r == 95)=false:=Zr (by omega)
 have e170:(r == 170)=false:=Zr (by omega)
 have e181:(r == 181)=false:=Zr (by omega)
 have e186:(r == 186)=false:=Zr (by omega)
 have e215:(r == 215)=false:=Zr (by omega)
 have e247:(r == 247)=false:=Zr (by omega)
 have e930:(r == 930)=false:=Zr (by omega)
 have m215:(r != 215)=true:=bne_iff_ne.2 (by omega)
 have m247:(r != 247)=true:=bne_iff_ne.2 (by omega)
 have m930:(r != 930)=true:=bne_iff_ne.2 (by omega)
 clear h1 h2 
 go_in
 go_wp2
 go_ret
 exact ⟨rfl,rfl⟩
theorem Zkb (w:World) :
 Calls Tryz.prog 87 #[.int .i32 930] w fun e w'=>e = .returned (.int .i64 (cls01 930))∧w'=w:=by
 have E:cls01 930=0:=by decide
 rw [E]
 go_in
 go_wp2
 go_ret
 exact ⟨rfl,rfl⟩
theorem Zkc (r:Int) (w:World) (h1:938≤r) (h2:r≤944) :
 Calls Tryz.prog 87 #[.int .i32 r] w fun e w'=>e = .returned (.int .i64 (cls01 r))∧w'=w:=by
 have E:cls01 r=0:=by
  unfold cls01
  repeat' split
  all_goals omega
 rw [E]; clear E
 have g48:48≤r:=by omega
 have g97:97≤r:=by omega
 have g65:65≤r:=by omega
 have g192:192≤r:=by omega
 have g913:913≤r:=by omega
 have g945:¬ 945≤r:=by omega
 have g1040:¬ 1040≤r:=by omega
 have g19968:¬ 19968≤r:=by omega
 have l57:¬ r≤57:=by omega
 have l122:¬ r≤122:=by omega
 have l90:¬ r≤90:=by omega
 have l591:¬ r≤591:=by omega
 have l937:¬ r≤937:=by omega
 have l969:r≤969:=by omega
 have l1103:r≤1103:=by omega
 have l40959:r≤40959:=by omega
 have e9:(r == 9)=false:=Zr (by omega)
 have e10:(r == 10)=false:=Zr (by omega)
 have e13:(r == 13)=false:=Zr (by omega)
 have e32:(r == 32)=false:=Zr (by omega)
 have e160:(r == 160)=false:=Zr (by omega)
 have e12288:(r == 12288)=false:=Zr (by omega)
 have e95:(r == 95)=false:=Zr (by omega)
 have e170:(r == 170)=false:=Zr (by omega)
 have e181:(r == 181)=false:=Zr (by omega)
 have e186:(r == 186)=false:=Zr (by omega)
 have e215:(r == 215)=false:=Zr (by omega)
 have e247:(r == 247)=false:=Zr (by omega)
 have e930:(r == 930)=false:=Zr (by omega)
 have m215:(r != 215)=true:=bne_iff_ne.2 (by omega)
 have m247:(r != 247)=true:=bne_iff_ne.2 (by omega)
 have m930:(r != 930)=true:=bne_iff_ne.2 (by omega)
 clear h1 h2 
 go_in
 go_wp2
 go_ret
 exact ⟨rfl,rfl⟩
theorem Zkd (r:Int) (w:World) (h1:970≤r) (h2:r≤1039) :
 Calls Tryz.prog 87 #[.int .i32 r] w fun e w'=>e = .returned (.int .i64 (cls01 r))∧w'=w:=by
 have E:cls01 r=0:=by
  unfold cls01
  repeat' split
  all_goals omega
 rw [E]; clear E
 have g48:48≤r:=by omega
 have g97:97≤r:=by omega
 have g65:65≤r:=by omega
 have g192:192≤r:=by omega
 have g913:913≤r:=by omega
 have g945:945≤r:=by omega
 have g1040:¬ 1040≤r:=by omega
 have g19968:¬ 19968≤r:=by omega
 have l57:¬ r≤57:=by omega
 have l122:¬ r≤122:=by omega
 have l90:¬ r≤90:=by omega
 have l591:¬ r≤591:=by omega
 have l937:¬ r≤937:=by omega
 have l969:¬ r≤969:=by omega
 have l1103:r≤1103:=by omega
 have l40959:r≤40959:=by omega
 have e9:(r == 9)=false:=Zr (by omega)
 have e10:(r == 10)=false:=Zr (by omega)
 have e13:(r == 13)=false:=Zr (by omega)
 have e32:(r == 32)=false:=Zr (by omega)
 have e160:(r == 160)=false:=Zr (by omega)
 have e12288:(r == 12288)=false:=Zr (by omega)
 have e95:(r == 95)=false:=Zr (by omega)
 have e170:(r == 170)=false:=Zr (by omega)
 have e181:(r == 181)=false:=Zr (by omega)
 have e186:(r == 186)=false:=Zr (by omega)
 have e215:(r == 215)=false:=Zr (by omega)
 have e247:(r == 247)=false:=Zr (by omega)
 have e930:(r == 930)=false:=Zr (by omega)
 have m215:(r != 215)=true:=bne_iff_ne.2 (by omega)
 have m247:(r != 247)=true:=bne_iff_ne.2 (by omega)
 have m930:(r != 930)=true:=bne_iff_ne.2 (by omega)
 clear h1 h2 
 go_in
 go_wp2
 go_ret
 exact ⟨rfl,rfl⟩
theorem Zke (r:Int) (w:World) (h1:1104≤r) (h2:r≤19967) (n12288:r≠12288):
 Calls Tryz.prog 87 #[.int .i32 r] w fun e w'=>e = .returned (.int .i64 (cls01 r))∧w'=w:=by
 have E:cls01 r=0:=by
  unfold cls01
  repeat' split
  all_goals omega
 rw [E]; clear E
 have g48:48≤r:=by omega
 have g97:97≤r:=by omega
 have g65:65≤r:=by omega
 have g192:192≤r:=by omega
 have g913:913≤r:=by omega
 have g945:945≤r:=by omega
 have g1040:1040≤r:=by omega
 have g19968:¬ 19968≤r:=by omega
 have l57:¬ r≤57:=by omega
 have l122:¬ r≤122:=by omega
 have l90:¬ r≤90:=by omega
 have l591:¬ r≤591:=by omega
 have l937:¬ r≤937:=by omega
 have l969:¬ r≤969:=by omega
 have l1103:¬ r≤1103:=by omega
 have l40959:r≤40959:=by omega
 have e9:(r == 9)=false:=Zr (by omega)
 have e10:(r == 10)=false:=Zr (by omega)
 have e13:(r == 13)=false:=Zr (by omega)
 have e32:(r == 32)=false:=Zr (by omega)
 have e160:(r == 160)=false:=Zr (by omega)
 have e12288:(r == 12288)=false:=Zr (by omega)
 have e95:(r == 95)=false:=Zr (by omega)
 have e170:(r == 170)=false:=Zr (by omega)
 have e181:(r == 181)=false:=Zr (by omega)
 have e186:(r == 186)=false:=Zr (by omega)
 have e215:(r == 215)=false:=Zr (by omega)
 have e247:(r == 247)=false:=Zr (by omega)
 have e930:(r == 930)=false:=Zr (by omega)
 have m215:(r != 215)=true:=bne_iff_ne.2 (by omega)
 have m247:(r != 247)=true:=bne_iff_ne.2 (by omega)
 have m930:(r != 930)=true:=bne_iff_ne.2 (by omega)
 clear h1 h2 n12288
 go_in
 go_wp2
 go_ret
 exact ⟨rfl,rfl⟩
theorem Zkf (r:Int) (w:World) (h1:40960≤r) (h2:r≤2147483647) :
 Calls Tryz.prog 87 #[.int .i32 r] w fun e w'=>e = .returned (.int .i64 (cls01 r))∧w'=w:=by
 have E:cls01 r=0:=by
  unfold cls01
  repeat' split
  all_goals omega
 rw [E]; clear E
 have g48:48≤r:=by omega
 have g97:97≤r:=by omega
 have g65:65≤r:=by omega
 have g192:192≤r:=by omega
 have g913:913≤r:=by omega
 have g945:945≤r:=by omega
 have g1040:1040≤r:=by omega
 have g19968:19968≤r:=by omega
 have l57:¬ r≤57:=by omega
 have l122:¬ r≤122:=by omega
 have l90:¬ r≤90:=by omega
 have l591:¬ r≤591:=by omega
 have l937:¬ r≤937:=by omega
 have l969:¬ r≤969:=by omega
 have l1103:¬ r≤1103:=by omega
 have l40959:¬ r≤40959:=by omega
 have e9:(r == 9)=false:=Zr (by omega)
 have e10:(r == 10)=false:=Zr (by omega)
 have e13:(r == 13)=false:=Zr (by omega)
 have e32:(r == 32)=false:=Zr (by omega)
 have e160:(r == 160)=false:=Zr (by omega)
 have e12288:(r == 12288)=false:=Zr (by omega)
 have e95:(r == 95)=false:=Zr (by omega)
 have e170:(r == 170)=false:=Zr (by omega)
 have e181:(r == 181)=false:=Zr (by omega)
 have e186:(r == 186)=false:=Zr (by omega)
 have e215:(r == 215)=false:=Zr (by omega)
 have e247:(r == 247)=false:=Zr (by omega)
 have e930:(r == 930)=false:=Zr (by omega)
 have m215:(r != 215)=true:=bne_iff_ne.2 (by omega)
 have m247:(r != 247)=true:=bne_iff_ne.2 (by omega)
 have m930:(r != 930)=true:=bne_iff_ne.2 (by omega)
 clear h1 h2 
 go_in
 go_wp2
 go_ret
 exact ⟨rfl,rfl⟩
theorem Zkg (r:Int) (w:World) (hr : -2147483648≤r∧r≤2147483647) :
 Calls Tryz.prog 87 #[.int .i32 r] w fun e w'=>e = .returned (.int .i64 (cls r))∧w'=w:=by
 rw [←Zaq]
 by_cases c1:r=9
 · rw [c1]; exact ZjK w
 by_cases c2:r=10
 · rw [c2]; exact ZjL w
 by_cases c3:r=13
 · rw [c3]; exact ZjM w
 by_cases c4:r=32
 · rw [c4]; exact ZjN w
 by_cases c5:r=160
 · rw [c5]; exact ZjO w
 by_cases c6:r=12288
 · rw [c6]; exact ZjP w
 by_cases c9:r=95
 · rw [c9]; exact ZjS w
 by_cases c10:r=170
 · rw [c10]; exact ZjT w
 by_cases c11:r=181
 · rw [c11]; exact ZjU w
 by_cases c12:r=186
 · rw [c12]; exact ZjV w
 by_cases c25:r=215
 · rw [c25]; exact Zj8 w
 by_cases c26:r=247
 · rw [c26]; exact Zj9 w
 by_cases c28:r=930
 · rw [c28]; exact Zkb w
 by_cases c0:48≤r∧r≤57
 · exact ZjJ r w c0.1 c0.2 
 by_cases c7:97≤r∧r≤122
 · exact ZjQ r w c7.1 c7.2 
 by_cases c8:65≤r∧r≤90
 · exact ZjR r w c8.1 c8.2 
 by_cases c13:192≤r∧r≤214
 · exact ZjW r w c13.1 c13.2 
 by_cases c14:216≤r∧r≤246
 · exact ZjX r w c14.1 c14.2 
 by_cases c15:248≤r∧r≤591
 · exact ZjY r w c15.1 c15.2 
 by_cases c16:913≤r∧r≤929
 · exact ZjZ r w c16.1 c16.2 
 by_cases c17:931≤r∧r≤937
 · exact Zj0 r w c17.1 c17.2 
 by_cases c18:945≤r∧r≤969
 · exact Zj1 r w c18.1 c18.2 
 by_cases c19:1040≤r∧r≤1103
 · exact Zj2 r w c19.1 c19.2 
 by_cases c20:19968≤r∧r≤40959
 · exact Zj3 r w c20.1 c20.2 
 by_cases c21 : -2147483648≤r∧r≤47
 · exact Zj4 r w c21.1 c21.2 (by omega) (by omega) (by omega) (by omega)
 by_cases c22:58≤r∧r≤64
 · exact Zj5 r w c22.1 c22.2 
 by_cases c23:91≤r∧r≤96
 · exact Zj6 r w c23.1 c23.2 (by omega)
 by_cases c24:123≤r∧r≤191
 · exact Zj7 r w c24.1 c24.2 (by omega) (by omega) (by omega) (by omega)
 by_cases c27:592≤r∧r≤912
 · exact Zka r w c27.1 c27.2 
 by_cases c29:938≤r∧r≤944
 · exact Zkc r w c29.1 c29.2 
 by_cases c30:970≤r∧r≤1039
 · exact Zkd r w c30.1 c30.2 
 by_cases c31:1104≤r∧r≤19967
 · exact Zke r w c31.1 c31.2 (by omega)
 by_cases c32:40960≤r∧r≤2147483647
 · exact Zkf r w c32.1 c32.2 
 omega
def bt (s:ByteArray) (j:Nat):Int:=if h:j<s.size then (s[j]'h).toNat else 0
theorem Zkh {s:ByteArray} {j:Nat} (h:j<s.size):bt s j=((s[j]'h).toNat:Int):=by simp [bt,h]
theorem Zki (s:ByteArray) (j:Nat):0≤bt s j∧bt s j<256:=by
 unfold bt
 split
 · rename_i h
   have:=(s[j]'h).toNat_lt
   omega
 · omega
def goesOn (s:ByteArray) (j:Nat):Prop:=128≤bt s j∧bt s j≤191
instance (s:ByteArray) (j:Nat):Decidable (goesOn s j):=by unfold goesOn; infer_instance
theorem Zkj (s:ByteArray) (i:Nat) (h:i<s.size) (h1:128≤(s[i]'h).toNat) (h2:(s[i]'h).toNat≤191) (w:World) :
 Calls Tryz.prog 122 #[.string s,.int .i64 i] w fun e w'=>e = .returned (.tuple #[.int .i32 ((s[i]'h).toNat - 128:Int),.bool true])∧w'=w:=by
 have e1:(((s[i]'h).toNat:Int) - 128) % 256=((s[i]'h).toNat:Int) - 128:=by omega
 go_in
 go_wp2
 go_ret2
 exact ⟨rfl,rfl⟩
theorem Zkk (s:ByteArray) (i:Nat) (h:¬ i<s.size) (w:World) :
 Calls Tryz.prog 122 #[.string s,.int .i64 i] w fun e w'=>e = .returned (.tuple #[.int .i32 0,.bool false])∧w'=w:=by
 go_in
 go_wp2
 go_ret2
 exact ⟨rfl,rfl⟩
theorem Zkl (s:ByteArray) (i:Nat) (h:i<s.size) (h1:(s[i]'h).toNat<128) (w:World) :
 Calls Tryz.prog 122 #[.string s,.int .i64 i] w fun e w'=>e = .returned (.tuple #[.int .i32 0,.bool false])∧w'=w:=by
 go_in
 go_wp2
 go_ret2
 exact ⟨rfl,rfl⟩
theorem Zkm (s:ByteArray) (i:Nat) (h:i<s.size) (h1:191<(s[i]'h).toNat) (w:World) :
 Calls Tryz.prog 122 #[.string s,.int .i64 i] w fun e w'=>e = .returned (.tuple #[.int .i32 0,.bool false])∧w'=w:=by
 go_in
 go_wp2
 go_ret2
 exact ⟨rfl,rfl⟩
theorem Zkn (s:ByteArray) (i:Nat) (w:World) :
 Calls Tryz.prog 122 #[.string s,.int .i64 i] w fun e w'=>e = .returned (.tuple #[.int .i32 (if goesOn s i then bt s i - 128 else 0),.bool (decide (goesOn s i))])∧w'=w:=by
 by_cases h:i<s.size
 · have hb:=Zkh h
   by_cases h1:(s[i]'h).toNat<128
   · have hg:¬ goesOn s i:=by unfold goesOn; omega
     rw [if_neg hg,decide_eq_false hg]
     exact Zkl s i h h1 w
   · by_cases h2:191<(s[i]'h).toNat
     · have hg:¬ goesOn s i:=by unfold goesOn; omega
       rw [if_neg hg,decide_eq_false hg]
       exact Zkm s i h h2 w
     · have hg:goesOn s i:=by unfold goesOn; omega
       rw [if_pos hg,decide_eq_true hg,hb]
       exact Zkj s i h (by omega) (by omega) w
 · have hb:bt s i=0:=by simp [bt,h]
   have hg:¬ goesOn s i:=by unfold goesOn; omega
   rw [if_neg hg,decide_eq_false hg]
   exact Zkk s i h w
def pieceV (i n:Nat) (r:Int) (bad:Bool):Value := .agg #[.int .i64 i,.int .i64 n,.int .i32 r,.bool bad]
theorem Zko (s:ByteArray) (i:Nat) (hi:i<s.size) (ha:(s[i]'hi).toNat<128) (w:World) :
 Calls Tryz.prog 86 #[.string s,.int .i64 i] w fun e w'=>e = .returned (pieceV i 1 (bt s i) false)∧Below w.heap.size w w':=by
 rw [Zkh hi]
 go_in
 go_wp2
 refine bodyPost_ret (v:=pieceV i 1 (s[i]'hi).toNat false) ?_ rfl ⟨rfl,(Below.refl _ _).alloc Zs _⟩
 simp [results,Tryz.results86,go_sem,pieceV]
theorem Zkp (s:ByteArray) (i:Nat) (hi:i<s.size) (hs:s.size≤4611686018427387904) (h1:194≤(s[i]'hi).toNat) (h2:(s[i]'hi).toNat≤223) (w:World) :
 Calls Tryz.prog 86 #[.string s,.int .i64 i] w fun e w'=>e = .returned (if goesOn s (i+1) then pieceV i 2 (((s[i]'hi).toNat - 192)*64+(bt s (i+1) - 128)) false else pieceV i 1 65533 true)∧Below w.heap.size w w':=by
 have hb:=Zki s (i+1)
 go_in
 go_wp2
 refine wp_loop_rounds 3 ?_
 rw [rounds_succ]
 by_cases hg:goesOn s (i+1)
 · have hgd:decide (goesOn s (i+1))=true:=decide_eq_true hg
   go_wp2_with fail
   refine (Zkn s (i+1) _).mono ?_
   rintro e w1 ⟨rfl,rfl⟩
   rw [if_pos hg,hgd]
   go_wp2
   rw [rounds_succ]
   go_wp2
   refine bodyPost_ret (v:=pieceV i 2 (((s[i]'hi).toNat - 192)*64+(bt s (i+1) - 128)) false) ?_ rfl ⟨rfl,(Below.refl _ _).alloc Zs _⟩
   simp [results,Tryz.results86,go_sem,pieceV]
 · have hgd:decide (goesOn s (i+1))=false:=decide_eq_false hg
   go_wp2_with fail
   refine (Zkn s (i+1) _).mono ?_
   rintro e w1 ⟨rfl,rfl⟩
   rw [if_neg hg,hgd]
   go_wp2
   refine bodyPost_ret (v:=pieceV i 1 65533 true) ?_ rfl ⟨rfl,(Below.refl _ _).alloc Zs _⟩
   simp [results,Tryz.results86,go_sem,pieceV]
theorem Zkq (s:ByteArray) (i:Nat) (hi:i<s.size) (h1:128≤(s[i]'hi).toNat) (h2:(s[i]'hi).toNat<194) (w:World) :
 Calls Tryz.prog 86 #[.string s,.int .i64 i] w fun e w'=>e = .returned (pieceV i 1 65533 true)∧Below w.heap.size w w':=by
 go_in
 go_wp2
 refine wp_loop_rounds 3 ?_
 rw [rounds_succ]
 go_wp2
 refine bodyPost_ret (v:=pieceV i 1 65533 true) ?_ rfl ⟨rfl,(Below.refl _ _).alloc Zs _⟩
 simp [results,Tryz.results86,go_sem,pieceV]
theorem Zkr (s:ByteArray) (i:Nat) (hi:i<s.size) (h1:244<(s[i]'hi).toNat) (w:World) :
 Calls Tryz.prog 86 #[.string s,.int .i64 i] w fun e w'=>e = .returned (pieceV i 1 65533 true)∧Below w.heap.size w w':=by
 go_in
 go_wp2
 refine wp_loop_rounds 3 ?_
 rw [rounds_succ]
 go_wp2
 refine bodyPost_ret (v:=pieceV i 1 65533 true) ?_ rfl ⟨rfl,(Below.refl _ _).alloc Zs _⟩
 simp [results,Tryz.results86,go_sem,pieceV]
end Go.Proofs.YtpfhhikbaeknpaaGreatDoor
