import Derived.Test.YtchklfmggpconaaGreatDoorK18
namespace Go.Proofs.YtchklfmggpconaaGreatDoor
open Go.RowKit
attribute [local go_sem ↓] Go.wp_at_zero Go.wp_at_succ
section
variable {F:Nat→Prop}{ad:Nat→Addr}{w w':World}
set_option maxRecDepth 100000 in
theorem tells15_any(hL:Env F ad w)(hfu:Full ad)(ev:Value)(o:Option Err)(he:ErrR F ad w ev o)(k:Nat)(hk:k<100) : Calls Tryz.prog 29 #[ev,.int .i64 (k:Int)] w λe w'=>e=.returned (.bool (decide (codeO o=k)))∧w=w':=by
 have HL:=Lib.hid hL;have HFU:=Lib.hid hfu;clear hL hfu;cases o with
 | none =>
  obtain rfl:ev=.nilIface:=he;by_cases h0:k=0
  ·subst h0
   go_enter Tryz.func29, Tryz.ntmps29
   go_wp2_with fail;refine (code_nil _).mono ?_;rintro e w1 ⟨rfl,rfl⟩;go_wp2_with fail;go_ret;exact⟨rfl,rfl⟩
  ·have hd:((k:Int) == 0)=false:=by rw[beq_eq_false_iff_ne];omega
   go_enter Tryz.func29, Tryz.ntmps29
   go_wp2_with fail;go_ret;refine⟨?_,rfl⟩;have:decide (codeO none=k)=false:=by rw[decide_eq_false_iff_not];exact λe=>h0 e.symm
   rw[this];rfl
 | some er =>
  obtain⟨el,ek⟩:=er;obtain⟨b,rfl,he⟩:=he;have hek:=he.code;have HE:=Lib.hid he;clear he;by_cases h0:k=0
  ·subst h0
   go_enter Tryz.func29, Tryz.ntmps29
   go_wp2_with fail;go_ret;refine⟨?_,rfl⟩;have:decide (codeO (some (el,ek))=0)=false:=by rw[decide_eq_false_iff_not];show ¬ ek=0;omega
   rw[this];rfl
  ·have hd:((k:Int) == 0)=false:=by rw[beq_eq_false_iff_ne];omega
   go_enter Tryz.func29, Tryz.ntmps29
   go_wp2_with fail;refine (code_any HL.out HFU.out _ el ek HE.out).mono ?_;rintro e w1 ⟨rfl,rfl⟩;go_wp2_with fail;go_ret;refine⟨?_,rfl⟩;have:decide (codeO (some (el,ek))=k)=((ek:Int) == (k:Int)):=by
    show decide (ek=k)=_;rw[Bool.eq_iff_iff,decide_eq_true_iff,beq_iff_eq];omega
   rw[this];rfl
end
end Go.Proofs.YtchklfmggpconaaGreatDoor
