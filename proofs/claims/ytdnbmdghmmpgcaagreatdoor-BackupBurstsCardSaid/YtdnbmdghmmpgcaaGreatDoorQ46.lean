import Derived.Test.YtdnbmdghmmpgcaaGreatDoorQ21
namespace Go.Proofs.YtdnbmdghmmpgcaaGreatDoor
open Go.RowKit
theorem zR2{b:List UInt8}(h4:4<=b.length)(hs:zZ b (b.length-4) 4=yC (b.take (b.length-4))):b=b.take (b.length-4)++zU 4 (yC (b.take (b.length-4))):=by
 have hd:(b.drop (b.length-4)).length=4:=by rw[wK];omega
 have ht:(b.drop (b.length-4)).take 4=b.drop (b.length-4):=uZ (by omega);have h1:=zKy (b.drop (b.length-4));rw[hd] at h1;rw[<- hs];unfold zZ;rw[ht,h1,uV]
theorem zRM{b:List UInt8}{h:zBj}(hp:zA0 b=.inl h):4<=b.length/\zZ b (b.length-4) 4=yC (b.take (b.length-4)):=by
 unfold zA0 at hp;by_cases h1:b.length<29\/b.take 4≠zBX
 .rw[if_pos h1] at hp;cases hp
 .rw[if_neg h1] at hp;by_cases h2:¬ ((zCd b).kind=1/\(zCd b).base=0\/(zCd b).kind=2)
  .rw[if_pos h2] at hp;cases hp
  .rw[if_neg h2] at hp;by_cases h3:zZ b (b.length-4) 4≠yC (b.take (b.length-4))
   .rw[if_pos h3] at hp;cases hp
   .have h3:=Classical.not_not.1 h3;exact⟨by omega,h3⟩
theorem zNp(raw:List UInt8)(bit mask:Nat)(hb:bit<8 * (zB3 raw).length)(hm:mask % 2=1):∃c,zA0 (zAN (zB3 raw) bit mask)=.inr c:=by
 cases hp:zA0 (zAN (zB3 raw) bit mask) with
 | inr c=>exact⟨c,rfl⟩
 | inl h =>
  obtain⟨h4,hs⟩:=zRM hp;exact absurd (zK1 (zB3 raw) _ raw _ bit mask rfl (zR2 h4 hs) rfl) (zMi _ _ _ hb hm)
theorem zNq(raw:List UInt8)(bit mask:Nat)(hb:bit<8 * (zB3 raw).length)(hm:mask % 2=1):∃c,zBY (zAN (zB3 raw) bit mask)=.inr c:=by
 obtain⟨c,hc⟩:=zNp raw bit mask hb hm;exact⟨c,by unfold zBY;rw[hc]⟩
end Go.Proofs.YtdnbmdghmmpgcaaGreatDoor
