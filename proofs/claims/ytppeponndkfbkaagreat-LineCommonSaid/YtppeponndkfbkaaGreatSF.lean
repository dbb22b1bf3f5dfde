import Derived.Test.YtppeponndkfbkaaGreatProg
import Derived.Shelf.Abstract
import Derived.Test.YtppeponndkfbkaaGreatSE
set_option linter.unusedVariables false
set_option linter.unusedSimpArgs false
/- The types of the program that the evaluation needs: a table, checked against the loaded program. -/
namespace Go.Proofs.YtppeponndkfbkaaGreat
open Go Go.Ae
def tt:TT:=fun t=>match t with
 | 1=>some ⟨1,8,.other,[.nilFunc]⟩
 | 2=>some ⟨1,8,.int .i64,[.int .i64 0]⟩
 | 3=>some ⟨1,8,.int .i64,[.int .i64 0]⟩
 | 4=>some ⟨1,1,.bool,[.bool false]⟩
 | 5=>some ⟨1,1,.int .u8,[.int .u8 0]⟩
 | 6=>some ⟨1,1,.int .u8,[.int .u8 0]⟩
 | 7=>some ⟨4,24,.struct [(0,1,false),(1,1,false),(2,1,false),(3,1,false)],[.int .i64 0,.int .i64 0,.bool false,.int .u8 0]⟩
 | 8=>some ⟨4,24,.struct [(0,1,false),(1,1,false),(2,1,false),(3,1,false)],[.int .i64 0,.int .i64 0,.bool false,.int .u8 0]⟩
 | 9=>some ⟨1,16,.str,[.string ⟨#[]⟩]⟩
 | 10=>some ⟨1,16,.str,[.string ⟨#[]⟩]⟩
 | 11=>some ⟨1,16,.str,[.string ⟨#[]⟩]⟩
 | 12=>some ⟨1,8,.int .u64,[.int .u64 0]⟩
 | 13=>some ⟨2,24,.struct [(0,1,false),(1,1,false)],[.string ⟨#[]⟩,.int .u64 0]⟩
 | 14=>some ⟨2,24,.struct [(0,1,false),(1,1,false)],[.string ⟨#[]⟩,.int .u64 0]⟩
 | 18=>some ⟨1,8,.struct [(0,1,false)],[.pointer none]⟩
 | 19=>some ⟨1,8,.struct [(0,1,false)],[.pointer none]⟩
 | 21=>some ⟨1,4,.int .i32,[.int .i32 0]⟩
 | 22=>some ⟨3,40,.struct [(0,1,false),(1,1,false),(2,1,false)],[.bool false,.string ⟨#[]⟩,.string ⟨#[]⟩]⟩
 | 23=>some ⟨3,40,.struct [(0,1,false),(1,1,false),(2,1,false)],[.bool false,.string ⟨#[]⟩,.string ⟨#[]⟩]⟩
 | 24=>some ⟨9,120,.struct [(0,3,true),(3,3,true),(6,3,true)],[.bool false,.string ⟨#[]⟩,.string ⟨#[]⟩,.bool false,.string ⟨#[]⟩,.string ⟨#[]⟩,.bool false,.string ⟨#[]⟩,.string ⟨#[]⟩]⟩
 | 25=>some ⟨9,120,.struct [(0,3,true),(3,3,true),(6,3,true)],[.bool false,.string ⟨#[]⟩,.string ⟨#[]⟩,.bool false,.string ⟨#[]⟩,.string ⟨#[]⟩,.bool false,.string ⟨#[]⟩,.string ⟨#[]⟩]⟩
 | 26=>some ⟨6,80,.struct [(0,3,true),(3,3,true)],[.bool false,.string ⟨#[]⟩,.string ⟨#[]⟩,.bool false,.string ⟨#[]⟩,.string ⟨#[]⟩]⟩
 | 27=>some ⟨6,80,.struct [(0,3,true),(3,3,true)],[.bool false,.string ⟨#[]⟩,.string ⟨#[]⟩,.bool false,.string ⟨#[]⟩,.string ⟨#[]⟩]⟩
 | 28=>some ⟨1,8,.other,[.nilFunc]⟩
 | 29=>some ⟨1,24,.slice 25,[.slice none 0 0]⟩
 | 30=>some ⟨1,8,.other,[.nilFunc]⟩
 | 31=>some ⟨1,8,.int .i64,[.int .i64 0]⟩
 | 33=>some ⟨1,8,.other,[.nilFunc]⟩
 | 35=>some ⟨1,8,.other,[.nilFunc]⟩
 | 36=>some ⟨1,8,.other,[.nilFunc]⟩
 | 37=>some ⟨1,8,.other,[.nilFunc]⟩
 | 38=>some ⟨1,8,.other,[.nilFunc]⟩
 | 40=>some ⟨1,8,.other,[.nilFunc]⟩
 | 41=>some ⟨1,8,.other,[.nilFunc]⟩
 | 42=>some ⟨1,8,.other,[.nilFunc]⟩
 | 43=>some ⟨12,160,.struct [(0,6,true),(6,6,true)],[.bool false,.string ⟨#[]⟩,.string ⟨#[]⟩,.bool false,.string ⟨#[]⟩,.string ⟨#[]⟩,.bool false,.string ⟨#[]⟩,.string ⟨#[]⟩,.bool false,.string ⟨#[]⟩,.string ⟨#[]⟩]⟩
 | 44=>some ⟨12,160,.struct [(0,6,true),(6,6,true)],[.bool false,.string ⟨#[]⟩,.string ⟨#[]⟩,.bool false,.string ⟨#[]⟩,.string ⟨#[]⟩,.bool false,.string ⟨#[]⟩,.string ⟨#[]⟩,.bool false,.string ⟨#[]⟩,.string ⟨#[]⟩]⟩
 | 45=>some ⟨1,24,.slice 27,[.slice none 0 0]⟩
 | 47=>some ⟨1,8,.other,[.nilFunc]⟩
 | 48=>some ⟨1,8,.other,[.nilFunc]⟩
 | 49=>some ⟨1,8,.other,[.nilFunc]⟩
 | 50=>some ⟨1,8,.other,[.nilFunc]⟩
 | 51=>some ⟨1,8,.other,[.nilFunc]⟩
 | 52=>some ⟨1,8,.other,[.nilFunc]⟩
 | 53=>some ⟨1,8,.other,[.nilFunc]⟩
 | 54=>some ⟨1,8,.other,[.nilFunc]⟩
 | 55=>some ⟨1,8,.other,[.nilFunc]⟩
 | 56=>some ⟨1,8,.other,[.nilFunc]⟩
 | 57=>some ⟨1,8,.other,[.nilFunc]⟩
 | 58=>some ⟨1,8,.other,[.nilFunc]⟩
 | 59=>some ⟨1,8,.other,[.nilFunc]⟩
 | 60=>some ⟨1,8,.other,[.nilFunc]⟩
 | 61=>some ⟨1,8,.other,[.nilFunc]⟩
 | 62=>some ⟨1,8,.other,[.nilFunc]⟩
 | 63=>some ⟨1,8,.other,[.nilFunc]⟩
 | 64=>some ⟨1,8,.other,[.nilFunc]⟩
 | 65=>some ⟨1,8,.other,[.nilFunc]⟩
 | 66=>some ⟨1,8,.other,[.nilFunc]⟩
 | 67=>some ⟨1,8,.other,[.nilFunc]⟩
 | 68=>some ⟨1,8,.other,[.nilFunc]⟩
 | 69=>some ⟨1,8,.other,[.nilFunc]⟩
 | 70=>some ⟨1,8,.other,[.nilFunc]⟩
 | 71=>some ⟨1,8,.other,[.nilFunc]⟩
 | 72=>some ⟨1,8,.other,[.nilFunc]⟩
 | 73=>some ⟨1,8,.other,[.nilFunc]⟩
 | 75=>some ⟨1,8,.other,[.nilFunc]⟩
 | 76=>some ⟨1,8,.other,[.nilFunc]⟩
 | 77=>some ⟨1,8,.other,[.nilFunc]⟩
 | 78=>some ⟨1,8,.other,[.nilFunc]⟩
 | 79=>some ⟨1,8,.other,[.nilFunc]⟩
 | 80=>some ⟨1,8,.other,[.nilFunc]⟩
 | 81=>some ⟨1,8,.other,[.nilFunc]⟩
 | 82=>some ⟨1,8,.other,[.nilFunc]⟩
 | 83=>some ⟨1,8,.other,[.nilFunc]⟩
 | 84=>some ⟨1,8,.other,[.nilFunc]⟩
 | 85=>some ⟨1,8,.other,[.nilFunc]⟩
 | 86=>some ⟨1,8,.int .u64,[.int .u64 0]⟩
 | 88=>some ⟨1,8,.other,[.nilFunc]⟩
 | 89=>some ⟨1,8,.other,[.nilFunc]⟩
 | 90=>some ⟨1,8,.other,[.nilFunc]⟩
 | 91=>some ⟨1,8,.other,[.nilFunc]⟩
 | 92=>some ⟨1,8,.other,[.nilFunc]⟩
 | 93=>some ⟨1,8,.other,[.nilFunc]⟩
 | 94=>some ⟨2,24,.struct [(0,1,false),(1,1,false)],[.bool false,.string ⟨#[]⟩]⟩
 | 95=>some ⟨2,24,.struct [(0,1,false),(1,1,false)],[.bool false,.string ⟨#[]⟩]⟩
 | 96=>some ⟨1,8,.other,[.nilFunc]⟩
 | 97=>some ⟨4,48,.struct [(0,2,true),(2,2,true)],[.bool false,.string ⟨#[]⟩,.bool false,.string ⟨#[]⟩]⟩
 | 98=>some ⟨4,48,.struct [(0,2,true),(2,2,true)],[.bool false,.string ⟨#[]⟩,.bool false,.string ⟨#[]⟩]⟩
 | 99=>some ⟨1,8,.other,[.nilFunc]⟩
 | 100=>some ⟨1,8,.other,[.nilFunc]⟩
 | 101=>some ⟨1,8,.other,[.nilFunc]⟩
 | 102=>some ⟨1,8,.other,[.nilFunc]⟩
 | 103=>some ⟨1,8,.other,[.nilFunc]⟩
 | 105=>some ⟨1,8,.other,[.nilFunc]⟩
 | 106=>some ⟨1,8,.other,[.nilFunc]⟩
 | 108=>some ⟨1,8,.other,[.nilFunc]⟩
 | 109=>some ⟨1,8,.other,[.nilFunc]⟩
 | 110=>some ⟨1,8,.other,[.nilFunc]⟩
 | 111=>some ⟨1,8,.other,[.nilFunc]⟩
 | 112=>some ⟨1,8,.other,[.nilFunc]⟩
 | 113=>some ⟨1,8,.other,[.nilFunc]⟩
 | 114=>some ⟨1,8,.other,[.nilFunc]⟩
 | 115=>some ⟨1,8,.other,[.nilFunc]⟩
 | 116=>some ⟨1,8,.other,[.nilFunc]⟩
 | 117=>some ⟨1,8,.other,[.nilFunc]⟩
 | 118=>some ⟨1,8,.other,[.nilFunc]⟩
 | 119=>some ⟨1,4,.int .u32,[.int .u32 0]⟩
 | 121=>some ⟨1,8,.other,[.nilFunc]⟩
 | 122=>some ⟨1,8,.int .u64,[.int .u64 0]⟩
 | 124=>some ⟨1,8,.other,[.nilFunc]⟩
 | 125=>some ⟨1,8,.other,[.nilFunc]⟩
 | 126=>some ⟨1,8,.other,[.nilFunc]⟩
 | 127=>some ⟨1,8,.other,[.nilFunc]⟩
 | 128=>some ⟨1,24,.slice 119,[.slice none 0 0]⟩
 | 129=>some ⟨1,24,.slice 119,[.slice none 0 0]⟩
 | 130=>some ⟨1,8,.other,[.nilFunc]⟩
 | 132=>some ⟨1,8,.other,[.nilFunc]⟩
 | 133=>some ⟨1,8,.other,[.nilFunc]⟩
 | 134=>some ⟨1,8,.other,[.nilFunc]⟩
 | 135=>some ⟨1,8,.other,[.nilFunc]⟩
 | 136=>some ⟨1,8,.other,[.nilFunc]⟩
 | 137=>some ⟨1,8,.other,[.nilFunc]⟩
 | 138=>some ⟨1,8,.other,[.nilFunc]⟩
 | 139=>some ⟨1,8,.other,[.nilFunc]⟩
 | 140=>some ⟨1,8,.other,[.nilFunc]⟩
 | 141=>some ⟨1,8,.other,[.nilFunc]⟩
 | 142=>some ⟨1,8,.other,[.nilFunc]⟩
 | 143=>some ⟨1,24,.slice 45,[.slice none 0 0]⟩
 | 144=>some ⟨1,8,.other,[.nilFunc]⟩
 | 145=>some ⟨1,24,.slice 23,[.slice none 0 0]⟩
 | 146=>some ⟨1,8,.other,[.nilFunc]⟩
 | 147=>some ⟨1,8,.other,[.nilFunc]⟩
 | 149=>some ⟨1,8,.other,[.nilFunc]⟩
 | 150=>some ⟨1,8,.other,[.nilFunc]⟩
 | 151=>some ⟨1,8,.other,[.nilFunc]⟩
 | 152=>some ⟨1,8,.other,[.nilFunc]⟩
 | 153=>some ⟨1,8,.other,[.nilFunc]⟩
 | 155=>some ⟨1,8,.other,[.nilFunc]⟩
 | 157=>some ⟨1,8,.other,[.nilFunc]⟩
 | 158=>some ⟨1,24,.slice 5,[.slice none 0 0]⟩
 | 159=>some ⟨8,8,.array 8 5,[.int .u8 0,.int .u8 0,.int .u8 0,.int .u8 0,.int .u8 0,.int .u8 0,.int .u8 0,.int .u8 0]⟩
 | 161=>some ⟨1,8,.other,[.nilFunc]⟩
 | 162=>some ⟨1,8,.other,[.nilFunc]⟩
 | 163=>some ⟨1,8,.other,[.nilFunc]⟩
 | 164=>some ⟨1,8,.other,[.nilFunc]⟩
 | 165=>some ⟨1,24,.slice 3,[.slice none 0 0]⟩
 | 166=>some ⟨1,8,.other,[.nilFunc]⟩
 | 167=>some ⟨8,128,.array 8 9,[.string ⟨#[]⟩,.string ⟨#[]⟩,.string ⟨#[]⟩,.string ⟨#[]⟩,.string ⟨#[]⟩,.string ⟨#[]⟩,.string ⟨#[]⟩,.string ⟨#[]⟩]⟩
 | 171=>some ⟨4,40,.struct [(0,1,false),(1,1,false),(2,1,false),(3,1,false)],[.pointer none,.pointer none,.pointer none,.string ⟨#[]⟩]⟩
 | 172=>some ⟨4,40,.struct [(0,1,false),(1,1,false),(2,1,false),(3,1,false)],[.pointer none,.pointer none,.pointer none,.string ⟨#[]⟩]⟩
 | 176=>some ⟨1,8,.other,[.nilFunc]⟩
 | 177=>some ⟨1,1,.int .u8,[.int .u8 0]⟩
 | 178=>some ⟨1,1,.int .u8,[.int .u8 0]⟩
 | 179=>some ⟨1,8,.other,[.nilFunc]⟩
 | 181=>some ⟨1,4,.int .i32,[.int .i32 0]⟩
 | 182=>some ⟨1,4,.int .i32,[.int .i32 0]⟩
 | 183=>some ⟨11,48,.struct [(0,1,false),(1,1,false),(2,1,false),(3,1,false),(4,1,false),(5,1,false),(6,1,false),(7,1,false),(8,1,false),(9,1,false),(10,1,false)],[.int .u64 0,.int .u64 0,.int .u32 0,.int .u8 0,.int .u8 0,.int .u8 0,.int .u8 0,.nilFunc,.pointer none,.int .i32 0,.int .i32 0]⟩
 | 184=>some ⟨11,48,.struct [(0,1,false),(1,1,false),(2,1,false),(3,1,false),(4,1,false),(5,1,false),(6,1,false),(7,1,false),(8,1,false),(9,1,false),(10,1,false)],[.int .u64 0,.int .u64 0,.int .u32 0,.int .u8 0,.int .u8 0,.int .u8 0,.int .u8 0,.nilFunc,.pointer none,.int .i32 0,.int .i32 0]⟩
 | 185=>some ⟨1,16,.struct [(0,1,false)],[.string ⟨#[]⟩]⟩
 | 186=>some ⟨1,16,.struct [(0,1,false)],[.string ⟨#[]⟩]⟩
 | _=>none
theorem tiok1:TIok Tryz.prog 1 ⟨1,8,.other,[.nilFunc]⟩:=tiok (by kernel_rfl) (by kernel_rfl) (by kernel_rfl)
theorem tiok2:TIok Tryz.prog 2 ⟨1,8,.int .i64,[.int .i64 0]⟩:=tiok (by kernel_rfl) (by kernel_rfl) (by kernel_rfl)
theorem tiok3:TIok Tryz.prog 3 ⟨1,8,.int .i64,[.int .i64 0]⟩:=tiok (by kernel_rfl) (by kernel_rfl) (by kernel_rfl)
theorem tiok4:TIok Tryz.prog 4 ⟨1,1,.bool,[.bool false]⟩:=tiok (by kernel_rfl) (by kernel_rfl) (by kernel_rfl)
theorem tiok5:TIok Tryz.prog 5 ⟨1,1,.int .u8,[.int .u8 0]⟩:=tiok (by kernel_rfl) (by kernel_rfl) (by kernel_rfl)
theorem tiok6:TIok Tryz.prog 6 ⟨1,1,.int .u8,[.int .u8 0]⟩:=tiok (by kernel_rfl) (by kernel_rfl) (by kernel_rfl)
theorem tiok7:TIok Tryz.prog 7 ⟨4,24,.struct [(0,1,false),(1,1,false),(2,1,false),(3,1,false)],[.int .i64 0,.int .i64 0,.bool false,.int .u8 0]⟩:=tiok (by kernel_rfl) (by kernel_rfl) (by kernel_rfl)
theorem tiok8:TIok Tryz.prog 8 ⟨4,24,.struct [(0,1,false),(1,1,false),(2,1,false),(3,1,false)],[.int .i64 0,.int .i64 0,.bool false,.int .u8 0]⟩:=tiok (by kernel_rfl) (by kernel_rfl) (by kernel_rfl)
theorem tiok9:TIok Tryz.prog 9 ⟨1,16,.str,[.string ⟨#[]⟩]⟩:=tiok (by kernel_rfl) (by kernel_rfl) (by kernel_rfl)
theorem tiok10:TIok Tryz.prog 10 ⟨1,16,.str,[.string ⟨#[]⟩]⟩:=tiok (by kernel_rfl) (by kernel_rfl) (by kernel_rfl)
theorem tiok11:TIok Tryz.prog 11 ⟨1,16,.str,[.string ⟨#[]⟩]⟩:=tiok (by kernel_rfl) (by kernel_rfl) (by kernel_rfl)
theorem tiok12:TIok Tryz.prog 12 ⟨1,8,.int .u64,[.int .u64 0]⟩:=tiok (by kernel_rfl) (by kernel_rfl) (by kernel_rfl)
theorem tiok13:TIok Tryz.prog 13 ⟨2,24,.struct [(0,1,false),(1,1,false)],[.string ⟨#[]⟩,.int .u64 0]⟩:=tiok (by kernel_rfl) (by kernel_rfl) (by kernel_rfl)
theorem tiok14:TIok Tryz.prog 14 ⟨2,24,.struct [(0,1,false),(1,1,false)],[.string ⟨#[]⟩,.int .u64 0]⟩:=tiok (by kernel_rfl) (by kernel_rfl) (by kernel_rfl)
theorem tiok18:TIok Tryz.prog 18 ⟨1,8,.struct [(0,1,false)],[.pointer none]⟩:=tiok (by kernel_rfl) (by kernel_rfl) (by kernel_rfl)
theorem tiok19:TIok Tryz.prog 19 ⟨1,8,.struct [(0,1,false)],[.pointer none]⟩:=tiok (by kernel_rfl) (by kernel_rfl) (by kernel_rfl)
theorem tiok21:TIok Tryz.prog 21 ⟨1,4,.int .i32,[.int .i32 0]⟩:=tiok (by kernel_rfl) (by kernel_rfl) (by kernel_rfl)
theorem tiok22:TIok Tryz.prog 22 ⟨3,40,.struct [(0,1,false),(1,1,false),(2,1,false)],[.bool false,.string ⟨#[]⟩,.string ⟨#[]⟩]⟩:=tiok (by kernel_rfl) (by kernel_rfl) (by kernel_rfl)
theorem tiok23:TIok Tryz.prog 23 ⟨3,40,.struct [(0,1,false),(1,1,false),(2,1,false)],[.bool false,.string ⟨#[]⟩,.string ⟨#[]⟩]⟩:=tiok (by kernel_rfl) (by kernel_rfl) (by kernel_rfl)
theorem tiok24:TIok Tryz.prog 24 ⟨9,120,.struct [(0,3,true),(3,3,true),(6,3,true)],[.bool false,.string ⟨#[]⟩,.string ⟨#[]⟩,.bool false,.string ⟨#[]⟩,.string ⟨#[]⟩,.bool false,.string ⟨#[]⟩,.string ⟨#[]⟩]⟩:=tiok (by kernel_rfl) (by kernel_rfl) (by kernel_rfl)
theorem tiok25:TIok Tryz.prog 25 ⟨9,120,.struct [(0,3,true),(3,3,true),(6,3,true)],[.bool false,.string ⟨#[]⟩,.string ⟨#[]⟩,.bool false,.string ⟨#[]⟩,.string ⟨#[]⟩,.bool false,.string ⟨#[]⟩,.string ⟨#[]⟩]⟩:=tiok (by kernel_rfl) (by kernel_rfl) (by kernel_rfl)
theorem tiok26:TIok Tryz.prog 26 ⟨6,80,.struct [(0,3,true),(3,3,true)],[.bool false,.string ⟨#[]⟩,.string ⟨#[]⟩,.bool false,.string ⟨#[]⟩,.string ⟨#[]⟩]⟩:=tiok (by kernel_rfl) (by kernel_rfl) (by kernel_rfl)
theorem tiok27:TIok Tryz.prog 27 ⟨6,80,.struct [(0,3,true),(3,3,true)],[.bool false,.string ⟨#[]⟩,.string ⟨#[]⟩,.bool false,.string ⟨#[]⟩,.string ⟨#[]⟩]⟩:=tiok (by kernel_rfl) (by kernel_rfl) (by kernel_rfl)
theorem tiok28:TIok Tryz.prog 28 ⟨1,8,.other,[.nilFunc]⟩:=tiok (by kernel_rfl) (by kernel_rfl) (by kernel_rfl)
theorem tiok29:TIok Tryz.prog 29 ⟨1,24,.slice 25,[.slice none 0 0]⟩:=tiok (by kernel_rfl) (by kernel_rfl) (by kernel_rfl)
theorem tiok30:TIok Tryz.prog 30 ⟨1,8,.other,[.nilFunc]⟩:=tiok (by kernel_rfl) (by kernel_rfl) (by kernel_rfl)
theorem tiok31:TIok Tryz.prog 31 ⟨1,8,.int .i64,[.int .i64 0]⟩:=tiok (by kernel_rfl) (by kernel_rfl) (by kernel_rfl)
theorem tiok33:TIok Tryz.prog 33 ⟨1,8,.other,[.nilFunc]⟩:=tiok (by kernel_rfl) (by kernel_rfl) (by kernel_rfl)
theorem tiok35:TIok Tryz.prog 35 ⟨1,8,.other,[.nilFunc]⟩:=tiok (by kernel_rfl) (by kernel_rfl) (by kernel_rfl)
theorem tiok36:TIok Tryz.prog 36 ⟨1,8,.other,[.nilFunc]⟩:=tiok (by kernel_rfl) (by kernel_rfl) (by kernel_rfl)
theorem tiok37:TIok Tryz.prog 37 ⟨1,8,.other,[.nilFunc]⟩:=tiok (by kernel_rfl) (by kernel_rfl) (by kernel_rfl)
theorem tiok38:TIok Tryz.prog 38 ⟨1,8,.other,[.nilFunc]⟩:=tiok (by kernel_rfl) (by kernel_rfl) (by kernel_rfl)
theorem tiok40:TIok Tryz.prog 40 ⟨1,8,.other,[.nilFunc]⟩:=tiok (by kernel_rfl) (by kernel_rfl) (by kernel_rfl)
theorem tiok41:TIok Tryz.prog 41 ⟨1,8,.other,[.nilFunc]⟩:=tiok (by kernel_rfl) (by kernel_rfl) (by kernel_rfl)
theorem tiok42:TIok Tryz.prog 42 ⟨1,8,.other,[.nilFunc]⟩:=tiok (by kernel_rfl) (by kernel_rfl) (by kernel_rfl)
theorem tiok43:TIok Tryz.prog 43 ⟨12,160,.struct [(0,6,true),(6,6,true)],[.bool false,.string ⟨#[]⟩,.string ⟨#[]⟩,.bool false,.string ⟨#[]⟩,.string ⟨#[]⟩,.bool false,.string ⟨#[]⟩,.string ⟨#[]⟩,.bool false,.string ⟨#[]⟩,.string ⟨#[]⟩]⟩:=tiok (by kernel_rfl) (by kernel_rfl) (by kernel_rfl)
theorem tiok44:TIok Tryz.prog 44 ⟨12,160,.struct [(0,6,true),(6,6,true)],[.bool false,.string ⟨#[]⟩,.string ⟨#[]⟩,.bool false,.string ⟨#[]⟩,.string ⟨#[]⟩,.bool false,.string ⟨#[]⟩,.string ⟨#[]⟩,.bool false,.string ⟨#[]⟩,.string ⟨#[]⟩]⟩:=tiok (by kernel_rfl) (by kernel_rfl) (by kernel_rfl)
theorem tiok45:TIok Tryz.prog 45 ⟨1,24,.slice 27,[.slice none 0 0]⟩:=tiok (by kernel_rfl) (by kernel_rfl) (by kernel_rfl)
theorem tiok47:TIok Tryz.prog 47 ⟨1,8,.other,[.nilFunc]⟩:=tiok (by kernel_rfl) (by kernel_rfl) (by kernel_rfl)
theorem tiok48:TIok Tryz.prog 48 ⟨1,8,.other,[.nilFunc]⟩:=tiok (by kernel_rfl) (by kernel_rfl) (by kernel_rfl)
theorem tiok49:TIok Tryz.prog 49 ⟨1,8,.other,[.nilFunc]⟩:=tiok (by kernel_rfl) (by kernel_rfl) (by kernel_rfl)
theorem tiok50:TIok Tryz.prog 50 ⟨1,8,.other,[.nilFunc]⟩:=tiok (by kernel_rfl) (by kernel_rfl) (by kernel_rfl)
theorem tiok51:TIok Tryz.prog 51 ⟨1,8,.other,[.nilFunc]⟩:=tiok (by kernel_rfl) (by kernel_rfl) (by kernel_rfl)
theorem tiok52:TIok Tryz.prog 52 ⟨1,8,.other,[.nilFunc]⟩:=tiok (by kernel_rfl) (by kernel_rfl) (by kernel_rfl)
theorem tiok53:TIok Tryz.prog 53 ⟨1,8,.other,[.nilFunc]⟩:=tiok (by kernel_rfl) (by kernel_rfl) (by kernel_rfl)
theorem tiok54:TIok Tryz.prog 54 ⟨1,8,.other,[.nilFunc]⟩:=tiok (by kernel_rfl) (by kernel_rfl) (by kernel_rfl)
theorem tiok55:TIok Tryz.prog 55 ⟨1,8,.other,[.nilFunc]⟩:=tiok (by kernel_rfl) (by kernel_rfl) (by kernel_rfl)
theorem tiok56:TIok Tryz.prog 56 ⟨1,8,.other,[.nilFunc]⟩:=tiok (by kernel_rfl) (by kernel_rfl) (by kernel_rfl)
theorem tiok57:TIok Tryz.prog 57 ⟨1,8,.other,[.nilFunc]⟩:=tiok (by kernel_rfl) (by kernel_rfl) (by kernel_rfl)
theorem tiok58:TIok Tryz.prog 58 ⟨1,8,.other,[.nilFunc]⟩:=tiok (by kernel_rfl) (by kernel_rfl) (by kernel_rfl)
theorem tiok59:TIok Tryz.prog 59 ⟨1,8,.other,[.nilFunc]⟩:=tiok (by kernel_rfl) (by kernel_rfl) (by kernel_rfl)
theorem tiok60:TIok Tryz.prog 60 ⟨1,8,.other,[.nilFunc]⟩:=tiok (by kernel_rfl) (by kernel_rfl) (by kernel_rfl)
theorem tiok61:TIok Tryz.prog 61 ⟨1,8,.other,[.nilFunc]⟩:=tiok (by kernel_rfl) (by kernel_rfl) (by kernel_rfl)
theorem tiok62:TIok Tryz.prog 62 ⟨1,8,.other,[.nilFunc]⟩:=tiok (by kernel_rfl) (by kernel_rfl) (by kernel_rfl)
theorem tiok63:TIok Tryz.prog 63 ⟨1,8,.other,[.nilFunc]⟩:=tiok (by kernel_rfl) (by kernel_rfl) (by kernel_rfl)
theorem tiok64:TIok Tryz.prog 64 ⟨1,8,.other,[.nilFunc]⟩:=tiok (by kernel_rfl) (by kernel_rfl) (by kernel_rfl)
theorem tiok65:TIok Tryz.prog 65 ⟨1,8,.other,[.nilFunc]⟩:=tiok (by kernel_rfl) (by kernel_rfl) (by kernel_rfl)
theorem tiok66:TIok Tryz.prog 66 ⟨1,8,.other,[.nilFunc]⟩:=tiok (by kernel_rfl) (by kernel_rfl) (by kernel_rfl)
theorem tiok67:TIok Tryz.prog 67 ⟨1,8,.other,[.nilFunc]⟩:=tiok (by kernel_rfl) (by kernel_rfl) (by kernel_rfl)
theorem tiok68:TIok Tryz.prog 68 ⟨1,8,.other,[.nilFunc]⟩:=tiok (by kernel_rfl) (by kernel_rfl) (by kernel_rfl)
theorem tiok69:TIok Tryz.prog 69 ⟨1,8,.other,[.nilFunc]⟩:=tiok (by kernel_rfl) (by kernel_rfl) (by kernel_rfl)
theorem tiok70:TIok Tryz.prog 70 ⟨1,8,.other,[.nilFunc]⟩:=tiok (by kernel_rfl) (by kernel_rfl) (by kernel_rfl)
theorem tiok71:TIok Tryz.prog 71 ⟨1,8,.other,[.nilFunc]⟩:=tiok (by kernel_rfl) (by kernel_rfl) (by kernel_rfl)
theorem tiok72:TIok Tryz.prog 72 ⟨1,8,.other,[.nilFunc]⟩:=tiok (by kernel_rfl) (by kernel_rfl) (by kernel_rfl)
theorem tiok73:TIok Tryz.prog 73 ⟨1,8,.other,[.nilFunc]⟩:=tiok (by kernel_rfl) (by kernel_rfl) (by kernel_rfl)
theorem tiok75:TIok Tryz.prog 75 ⟨1,8,.other,[.nilFunc]⟩:=tiok (by kernel_rfl) (by kernel_rfl) (by kernel_rfl)
theorem tiok76:TIok Tryz.prog 76 ⟨1,8,.other,[.nilFunc]⟩:=tiok (by kernel_rfl) (by kernel_rfl) (by kernel_rfl)
theorem tiok77:TIok Tryz.prog 77 ⟨1,8,.other,[.nilFunc]⟩:=tiok (by kernel_rfl) (by kernel_rfl) (by kernel_rfl)
theorem tiok78:TIok Tryz.prog 78 ⟨1,8,.other,[.nilFunc]⟩:=tiok (by kernel_rfl) (by kernel_rfl) (by kernel_rfl)
theorem tiok79:TIok Tryz.prog 79 ⟨1,8,.other,[.nilFunc]⟩:=tiok (by kernel_rfl) (by kernel_rfl) (by kernel_rfl)
theorem tiok80:TIok Tryz.prog 80 ⟨1,8,.other,[.nilFunc]⟩:=tiok (by kernel_rfl) (by kernel_rfl) (by kernel_rfl)
theorem tiok81:TIok Tryz.prog 81 ⟨1,8,.other,[.nilFunc]⟩:=tiok (by kernel_rfl) (by kernel_rfl) (by kernel_rfl)
theorem tiok82:TIok Tryz.prog 82 ⟨1,8,.other,[.nilFunc]⟩:=tiok (by kernel_rfl) (by kernel_rfl) (by kernel_rfl)
theorem tiok83:TIok Tryz.prog 83 ⟨1,8,.other,[.nilFunc]⟩:=tiok (by kernel_rfl) (by kernel_rfl) (by kernel_rfl)
theorem tiok84:TIok Tryz.prog 84 ⟨1,8,.other,[.nilFunc]⟩:=tiok (by kernel_rfl) (by kernel_rfl) (by kernel_rfl)
theorem tiok85:TIok Tryz.prog 85 ⟨1,8,.other,[.nilFunc]⟩:=tiok (by kernel_rfl) (by kernel_rfl) (by kernel_rfl)
theorem tiok86:TIok Tryz.prog 86 ⟨1,8,.int .u64,[.int .u64 0]⟩:=tiok (by kernel_rfl) (by kernel_rfl) (by kernel_rfl)
theorem tiok88:TIok Tryz.prog 88 ⟨1,8,.other,[.nilFunc]⟩:=tiok (by kernel_rfl) (by kernel_rfl) (by kernel_rfl)
theorem tiok89:TIok Tryz.prog 89 ⟨1,8,.other,[.nilFunc]⟩:=tiok (by kernel_rfl) (by kernel_rfl) (by kernel_rfl)
theorem tiok90:TIok Tryz.prog 90 ⟨1,8,.other,[.nilFunc]⟩:=tiok (by kernel_rfl) (by kernel_rfl) (by kernel_rfl)
theorem tiok91:TIok Tryz.prog 91 ⟨1,8,.other,[.nilFunc]⟩:=tiok (by kernel_rfl) (by kernel_rfl) (by kernel_rfl)
theorem tiok92:TIok Tryz.prog 92 ⟨1,8,.other,[.nilFunc]⟩:=tiok (by kernel_rfl) (by kernel_rfl) (by kernel_rfl)
theorem tiok93:TIok Tryz.prog 93 ⟨1,8,.other,[.nilFunc]⟩:=tiok (by kernel_rfl) (by kernel_rfl) (by kernel_rfl)
theorem tiok94:TIok Tryz.prog 94 ⟨2,24,.struct [(0,1,false),(1,1,false)],[.bool false,.string ⟨#[]⟩]⟩:=tiok (by kernel_rfl) (by kernel_rfl) (by kernel_rfl)
theorem tiok95:TIok Tryz.prog 95 ⟨2,24,.struct [(0,1,false),(1,1,false)],[.bool false,.string ⟨#[]⟩]⟩:=tiok (by kernel_rfl) (by kernel_rfl) (by kernel_rfl)
theorem tiok96:TIok Tryz.prog 96 ⟨1,8,.other,[.nilFunc]⟩:=tiok (by kernel_rfl) (by kernel_rfl) (by kernel_rfl)
theorem tiok97:TIok Tryz.prog 97 ⟨4,48,.struct [(0,2,true),(2,2,true)],[.bool false,.string ⟨#[]⟩,.bool false,.string ⟨#[]⟩]⟩:=tiok (by kernel_rfl) (by kernel_rfl) (by kernel_rfl)
theorem tiok98:TIok Tryz.prog 98 ⟨4,48,.struct [(0,2,true),(2,2,true)],[.bool false,.string ⟨#[]⟩,.bool false,.string ⟨#[]⟩]⟩:=tiok (by kernel_rfl) (by kernel_rfl) (by kernel_rfl)
theorem tiok99:TIok Tryz.prog 99 ⟨1,8,.other,[.nilFunc]⟩:=tiok (by kernel_rfl) (by kernel_rfl) (by kernel_rfl)
theorem tiok100:TIok Tryz.prog 100 ⟨1,8,.other,[.nilFunc]⟩:=tiok (by kernel_rfl) (by kernel_rfl) (by kernel_rfl)
theorem tiok101:TIok Tryz.prog 101 ⟨1,8,.other,[.nilFunc]⟩:=tiok (by kernel_rfl) (by kernel_rfl) (by kernel_rfl)
theorem tiok102:TIok Tryz.prog 102 ⟨1,8,.other,[.nilFunc]⟩:=tiok (by kernel_rfl) (by kernel_rfl) (by kernel_rfl)
theorem tiok103:TIok Tryz.prog 103 ⟨1,8,.other,[.nilFunc]⟩:=tiok (by kernel_rfl) (by kernel_rfl) (by kernel_rfl)
theorem tiok105:TIok Tryz.prog 105 ⟨1,8,.other,[.nilFunc]⟩:=tiok (by kernel_rfl) (by kernel_rfl) (by kernel_rfl)
theorem tiok106:TIok Tryz.prog 106 ⟨1,8,.other,[.nilFunc]⟩:=tiok (by kernel_rfl) (by kernel_rfl) (by kernel_rfl)
theorem tiok108:TIok Tryz.prog 108 ⟨1,8,.other,[.nilFunc]⟩:=tiok (by kernel_rfl) (by kernel_rfl) (by kernel_rfl)
theorem tiok109:TIok Tryz.prog 109 ⟨1,8,.other,[.nilFunc]⟩:=tiok (by kernel_rfl) (by kernel_rfl) (by kernel_rfl)
theorem tiok110:TIok Tryz.prog 110 ⟨1,8,.other,[.nilFunc]⟩:=tiok (by kernel_rfl) (by kernel_rfl) (by kernel_rfl)
theorem tiok111:TIok Tryz.prog 111 ⟨1,8,.other,[.nilFunc]⟩:=tiok (by kernel_rfl) (by kernel_rfl) (by kernel_rfl)
theorem tiok112:TIok Tryz.prog 112 ⟨1,8,.other,[.nilFunc]⟩:=tiok (by kernel_rfl) (by kernel_rfl) (by kernel_rfl)
theorem tiok113:TIok Tryz.prog 113 ⟨1,8,.other,[.nilFunc]⟩:=tiok (by kernel_rfl) (by kernel_rfl) (by kernel_rfl)
theorem tiok114:TIok Tryz.prog 114 ⟨1,8,.other,[.nilFunc]⟩:=tiok (by kernel_rfl) (by kernel_rfl) (by kernel_rfl)
theorem tiok115:TIok Tryz.prog 115 ⟨1,8,.other,[.nilFunc]⟩:=tiok (by kernel_rfl) (by kernel_rfl) (by kernel_rfl)
theorem tiok116:TIok Tryz.prog 116 ⟨1,8,.other,[.nilFunc]⟩:=tiok (by kernel_rfl) (by kernel_rfl) (by kernel_rfl)
theorem tiok117:TIok Tryz.prog 117 ⟨1,8,.other,[.nilFunc]⟩:=tiok (by kernel_rfl) (by kernel_rfl) (by kernel_rfl)
theorem tiok118:TIok Tryz.prog 118 ⟨1,8,.other,[.nilFunc]⟩:=tiok (by kernel_rfl) (by kernel_rfl) (by kernel_rfl)
theorem tiok119:TIok Tryz.prog 119 ⟨1,4,.int .u32,[.int .u32 0]⟩:=tiok (by kernel_rfl) (by kernel_rfl) (by kernel_rfl)
theorem tiok121:TIok Tryz.prog 121 ⟨1,8,.other,[.nilFunc]⟩:=tiok (by kernel_rfl) (by kernel_rfl) (by kernel_rfl)
theorem tiok122:TIok Tryz.prog 122 ⟨1,8,.int .u64,[.int .u64 0]⟩:=tiok (by kernel_rfl) (by kernel_rfl) (by kernel_rfl)
theorem tiok124:TIok Tryz.prog 124 ⟨1,8,.other,[.nilFunc]⟩:=tiok (by kernel_rfl) (by kernel_rfl) (by kernel_rfl)
theorem tiok125:TIok Tryz.prog 125 ⟨1,8,.other,[.nilFunc]⟩:=tiok (by kernel_rfl) (by kernel_rfl) (by kernel_rfl)
theorem tiok126:TIok Tryz.prog 126 ⟨1,8,.other,[.nilFunc]⟩:=tiok (by kernel_rfl) (by kernel_rfl) (by kernel_rfl)
theorem tiok127:TIok Tryz.prog 127 ⟨1,8,.other,[.nilFunc]⟩:=tiok (by kernel_rfl) (by kernel_rfl) (by kernel_rfl)
theorem tiok128:TIok Tryz.prog 128 ⟨1,24,.slice 119,[.slice none 0 0]⟩:=tiok (by kernel_rfl) (by kernel_rfl) (by kernel_rfl)
theorem tiok129:TIok Tryz.prog 129 ⟨1,24,.slice 119,[.slice none 0 0]⟩:=tiok (by kernel_rfl) (by kernel_rfl) (by kernel_rfl)
theorem tiok130:TIok Tryz.prog 130 ⟨1,8,.other,[.nilFunc]⟩:=tiok (by kernel_rfl) (by kernel_rfl) (by kernel_rfl)
theorem tiok132:TIok Tryz.prog 132 ⟨1,8,.other,[.nilFunc]⟩:=tiok (by kernel_rfl) (by kernel_rfl) (by kernel_rfl)
theorem tiok133:TIok Tryz.prog 133 ⟨1,8,.other,[.nilFunc]⟩:=tiok (by kernel_rfl) (by kernel_rfl) (by kernel_rfl)
theorem tiok134:TIok Tryz.prog 134 ⟨1,8,.other,[.nilFunc]⟩:=tiok (by kernel_rfl) (by kernel_rfl) (by kernel_rfl)
theorem tiok135:TIok Tryz.prog 135 ⟨1,8,.other,[.nilFunc]⟩:=tiok (by kernel_rfl) (by kernel_rfl) (by kernel_rfl)
theorem tiok136:TIok Tryz.prog 136 ⟨1,8,.other,[.nilFunc]⟩:=tiok (by kernel_rfl) (by kernel_rfl) (by kernel_rfl)
theorem tiok137:TIok Tryz.prog 137 ⟨1,8,.other,[.nilFunc]⟩:=tiok (by kernel_rfl) (by kernel_rfl) (by kernel_rfl)
theorem tiok138:TIok Tryz.prog 138 ⟨1,8,.other,[.nilFunc]⟩:=tiok (by kernel_rfl) (by kernel_rfl) (by kernel_rfl)
theorem tiok139:TIok Tryz.prog 139 ⟨1,8,.other,[.nilFunc]⟩:=tiok (by kernel_rfl) (by kernel_rfl) (by kernel_rfl)
theorem tiok140:TIok Tryz.prog 140 ⟨1,8,.other,[.nilFunc]⟩:=tiok (by kernel_rfl) (by kernel_rfl) (by kernel_rfl)
theorem tiok141:TIok Tryz.prog 141 ⟨1,8,.other,[.nilFunc]⟩:=tiok (by kernel_rfl) (by kernel_rfl) (by kernel_rfl)
theorem tiok142:TIok Tryz.prog 142 ⟨1,8,.other,[.nilFunc]⟩:=tiok (by kernel_rfl) (by kernel_rfl) (by kernel_rfl)
theorem tiok143:TIok Tryz.prog 143 ⟨1,24,.slice 45,[.slice none 0 0]⟩:=tiok (by kernel_rfl) (by kernel_rfl) (by kernel_rfl)
theorem tiok144:TIok Tryz.prog 144 ⟨1,8,.other,[.nilFunc]⟩:=tiok (by kernel_rfl) (by kernel_rfl) (by kernel_rfl)
theorem tiok145:TIok Tryz.prog 145 ⟨1,24,.slice 23,[.slice none 0 0]⟩:=tiok (by kernel_rfl) (by kernel_rfl) (by kernel_rfl)
theorem tiok146:TIok Tryz.prog 146 ⟨1,8,.other,[.nilFunc]⟩:=tiok (by kernel_rfl) (by kernel_rfl) (by kernel_rfl)
theorem tiok147:TIok Tryz.prog 147 ⟨1,8,.other,[.nilFunc]⟩:=tiok (by kernel_rfl) (by kernel_rfl) (by kernel_rfl)
theorem tiok149:TIok Tryz.prog 149 ⟨1,8,.other,[.nilFunc]⟩:=tiok (by kernel_rfl) (by kernel_rfl) (by kernel_rfl)
theorem tiok150:TIok Tryz.prog 150 ⟨1,8,.other,[.nilFunc]⟩:=tiok (by kernel_rfl) (by kernel_rfl) (by kernel_rfl)
theorem tiok151:TIok Tryz.prog 151 ⟨1,8,.other,[.nilFunc]⟩:=tiok (by kernel_rfl) (by kernel_rfl) (by kernel_rfl)
theorem tiok152:TIok Tryz.prog 152 ⟨1,8,.other,[.nilFunc]⟩:=tiok (by kernel_rfl) (by kernel_rfl) (by kernel_rfl)
theorem tiok153:TIok Tryz.prog 153 ⟨1,8,.other,[.nilFunc]⟩:=tiok (by kernel_rfl) (by kernel_rfl) (by kernel_rfl)
theorem tiok155:TIok Tryz.prog 155 ⟨1,8,.other,[.nilFunc]⟩:=tiok (by kernel_rfl) (by kernel_rfl) (by kernel_rfl)
theorem tiok157:TIok Tryz.prog 157 ⟨1,8,.other,[.nilFunc]⟩:=tiok (by kernel_rfl) (by kernel_rfl) (by kernel_rfl)
theorem tiok158:TIok Tryz.prog 158 ⟨1,24,.slice 5,[.slice none 0 0]⟩:=tiok (by kernel_rfl) (by kernel_rfl) (by kernel_rfl)
theorem tiok159:TIok Tryz.prog 159 ⟨8,8,.array 8 5,[.int .u8 0,.int .u8 0,.int .u8 0,.int .u8 0,.int .u8 0,.int .u8 0,.int .u8 0,.int .u8 0]⟩:=tiok (by kernel_rfl) (by kernel_rfl) (by kernel_rfl)
theorem tiok161:TIok Tryz.prog 161 ⟨1,8,.other,[.nilFunc]⟩:=tiok (by kernel_rfl) (by kernel_rfl) (by kernel_rfl)
theorem tiok162:TIok Tryz.prog 162 ⟨1,8,.other,[.nilFunc]⟩:=tiok (by kernel_rfl) (by kernel_rfl) (by kernel_rfl)
theorem tiok163:TIok Tryz.prog 163 ⟨1,8,.other,[.nilFunc]⟩:=tiok (by kernel_rfl) (by kernel_rfl) (by kernel_rfl)
theorem tiok164:TIok Tryz.prog 164 ⟨1,8,.other,[.nilFunc]⟩:=tiok (by kernel_rfl) (by kernel_rfl) (by kernel_rfl)
theorem tiok165:TIok Tryz.prog 165 ⟨1,24,.slice 3,[.slice none 0 0]⟩:=tiok (by kernel_rfl) (by kernel_rfl) (by kernel_rfl)
theorem tiok166:TIok Tryz.prog 166 ⟨1,8,.other,[.nilFunc]⟩:=tiok (by kernel_rfl) (by kernel_rfl) (by kernel_rfl)
theorem tiok167:TIok Tryz.prog 167 ⟨8,128,.array 8 9,[.string ⟨#[]⟩,.string ⟨#[]⟩,.string ⟨#[]⟩,.string ⟨#[]⟩,.string ⟨#[]⟩,.string ⟨#[]⟩,.string ⟨#[]⟩,.string ⟨#[]⟩]⟩:=tiok (by kernel_rfl) (by kernel_rfl) (by kernel_rfl)
theorem tiok171:TIok Tryz.prog 171 ⟨4,40,.struct [(0,1,false),(1,1,false),(2,1,false),(3,1,false)],[.pointer none,.pointer none,.pointer none,.string ⟨#[]⟩]⟩:=tiok (by kernel_rfl) (by kernel_rfl) (by kernel_rfl)
theorem tiok172:TIok Tryz.prog 172 ⟨4,40,.struct [(0,1,false),(1,1,false),(2,1,false),(3,1,false)],[.pointer none,.pointer none,.pointer none,.string ⟨#[]⟩]⟩:=tiok (by kernel_rfl) (by kernel_rfl) (by kernel_rfl)
theorem tiok176:TIok Tryz.prog 176 ⟨1,8,.other,[.nilFunc]⟩:=tiok (by kernel_rfl) (by kernel_rfl) (by kernel_rfl)
theorem tiok177:TIok Tryz.prog 177 ⟨1,1,.int .u8,[.int .u8 0]⟩:=tiok (by kernel_rfl) (by kernel_rfl) (by kernel_rfl)
theorem tiok178:TIok Tryz.prog 178 ⟨1,1,.int .u8,[.int .u8 0]⟩:=tiok (by kernel_rfl) (by kernel_rfl) (by kernel_rfl)
theorem tiok179:TIok Tryz.prog 179 ⟨1,8,.other,[.nilFunc]⟩:=tiok (by kernel_rfl) (by kernel_rfl) (by kernel_rfl)
theorem tiok181:TIok Tryz.prog 181 ⟨1,4,.int .i32,[.int .i32 0]⟩:=tiok (by kernel_rfl) (by kernel_rfl) (by kernel_rfl)
theorem tiok182:TIok Tryz.prog 182 ⟨1,4,.int .i32,[.int .i32 0]⟩:=tiok (by kernel_rfl) (by kernel_rfl) (by kernel_rfl)
theorem tiok183:TIok Tryz.prog 183 ⟨11,48,.struct [(0,1,false),(1,1,false),(2,1,false),(3,1,false),(4,1,false),(5,1,false),(6,1,false),(7,1,false),(8,1,false),(9,1,false),(10,1,false)],[.int .u64 0,.int .u64 0,.int .u32 0,.int .u8 0,.int .u8 0,.int .u8 0,.int .u8 0,.nilFunc,.pointer none,.int .i32 0,.int .i32 0]⟩:=tiok (by kernel_rfl) (by kernel_rfl) (by kernel_rfl)
theorem tiok184:TIok Tryz.prog 184 ⟨11,48,.struct [(0,1,false),(1,1,false),(2,1,false),(3,1,false),(4,1,false),(5,1,false),(6,1,false),(7,1,false),(8,1,false),(9,1,false),(10,1,false)],[.int .u64 0,.int .u64 0,.int .u32 0,.int .u8 0,.int .u8 0,.int .u8 0,.int .u8 0,.nilFunc,.pointer none,.int .i32 0,.int .i32 0]⟩:=tiok (by kernel_rfl) (by kernel_rfl) (by kernel_rfl)
theorem tiok185:TIok Tryz.prog 185 ⟨1,16,.struct [(0,1,false)],[.string ⟨#[]⟩]⟩:=tiok (by kernel_rfl) (by kernel_rfl) (by kernel_rfl)
theorem tiok186:TIok Tryz.prog 186 ⟨1,16,.struct [(0,1,false)],[.string ⟨#[]⟩]⟩:=tiok (by kernel_rfl) (by kernel_rfl) (by kernel_rfl)
theorem tt_ok:∀ t ti,tt t=some ti→TIok Tryz.prog t ti:=by
 intro t ti h
 unfold tt at h
 split at h
 ·cases h; exact tiok1
 ·cases h; exact tiok2
 ·cases h; exact tiok3
 ·cases h; exact tiok4
 ·cases h; exact tiok5
 ·cases h; exact tiok6
 ·cases h; exact tiok7
 ·cases h; exact tiok8
 ·cases h; exact tiok9
 ·cases h; exact tiok10
 ·cases h; exact tiok11
 ·cases h; exact tiok12
 ·cases h; exact tiok13
 ·cases h; exact tiok14
 ·cases h; exact tiok18
 ·cases h; exact tiok19
 ·cases h; exact tiok21
 ·cases h; exact tiok22
 ·cases h; exact tiok23
 ·cases h; exact tiok24
 ·cases h; exact tiok25
 ·cases h; exact tiok26
 ·cases h; exact tiok27
 ·cases h; exact tiok28
 ·cases h; exact tiok29
 ·cases h; exact tiok30
 ·cases h; exact tiok31
 ·cases h; exact tiok33
 ·cases h; exact tiok35
 ·cases h; exact tiok36
 ·cases h; exact tiok37
 ·cases h; exact tiok38
 ·cases h; exact tiok40
 ·cases h; exact tiok41
 ·cases h; exact tiok42
 ·cases h; exact tiok43
 ·cases h; exact tiok44
 ·cases h; exact tiok45
 ·cases h; exact tiok47
 ·cases h; exact tiok48
 ·cases h; exact tiok49
 ·cases h; exact tiok50
 ·cases h; exact tiok51
 ·cases h; exact tiok52
 ·cases h; exact tiok53
 ·cases h; exact tiok54
 ·cases h; exact tiok55
 ·cases h; exact tiok56
 ·cases h; exact tiok57
 ·cases h; exact tiok58
 ·cases h; exact tiok59
 ·cases h; exact tiok60
 ·cases h; exact tiok61
 ·cases h; exact tiok62
 ·cases h; exact tiok63
 ·cases h; exact tiok64
 ·cases h; exact tiok65
 ·cases h; exact tiok66
 ·cases h; exact tiok67
 ·cases h; exact tiok68
 ·cases h; exact tiok69
 ·cases h; exact tiok70
 ·cases h; exact tiok71
 ·cases h; exact tiok72
 ·cases h; exact tiok73
 ·cases h; exact tiok75
 ·cases h; exact tiok76
 ·cases h; exact tiok77
 ·cases h; exact tiok78
 ·cases h; exact tiok79
 ·cases h; exact tiok80
 ·cases h; exact tiok81
 ·cases h; exact tiok82
 ·cases h; exact tiok83
 ·cases h; exact tiok84
 ·cases h; exact tiok85
 ·cases h; exact tiok86
 ·cases h; exact tiok88
 ·cases h; exact tiok89
 ·cases h; exact tiok90
 ·cases h; exact tiok91
 ·cases h; exact tiok92
 ·cases h; exact tiok93
 ·cases h; exact tiok94
 ·cases h; exact tiok95
 ·cases h; exact tiok96
 ·cases h; exact tiok97
 ·cases h; exact tiok98
 ·cases h; exact tiok99
 ·cases h; exact tiok100
 ·cases h; exact tiok101
 ·cases h; exact tiok102
 ·cases h; exact tiok103
 ·cases h; exact tiok105
 ·cases h; exact tiok106
 ·cases h; exact tiok108
 ·cases h; exact tiok109
 ·cases h; exact tiok110
 ·cases h; exact tiok111
 ·cases h; exact tiok112
 ·cases h; exact tiok113
 ·cases h; exact tiok114
 ·cases h; exact tiok115
 ·cases h; exact tiok116
 ·cases h; exact tiok117
 ·cases h; exact tiok118
 ·cases h; exact tiok119
 ·cases h; exact tiok121
 ·cases h; exact tiok122
 ·cases h; exact tiok124
 ·cases h; exact tiok125
 ·cases h; exact tiok126
 ·cases h; exact tiok127
 ·cases h; exact tiok128
 ·cases h; exact tiok129
 ·cases h; exact tiok130
 ·cases h; exact tiok132
 ·cases h; exact tiok133
 ·cases h; exact tiok134
 ·cases h; exact tiok135
 ·cases h; exact tiok136
 ·cases h; exact tiok137
 ·cases h; exact tiok138
 ·cases h; exact tiok139
 ·cases h; exact tiok140
 ·cases h; exact tiok141
 ·cases h; exact tiok142
 ·cases h; exact tiok143
 ·cases h; exact tiok144
 ·cases h; exact tiok145
 ·cases h; exact tiok146
 ·cases h; exact tiok147
 ·cases h; exact tiok149
 ·cases h; exact tiok150
 ·cases h; exact tiok151
 ·cases h; exact tiok152
 ·cases h; exact tiok153
 ·cases h; exact tiok155
 ·cases h; exact tiok157
 ·cases h; exact tiok158
 ·cases h; exact tiok159
 ·cases h; exact tiok161
 ·cases h; exact tiok162
 ·cases h; exact tiok163
 ·cases h; exact tiok164
 ·cases h; exact tiok165
 ·cases h; exact tiok166
 ·cases h; exact tiok167
 ·cases h; exact tiok171
 ·cases h; exact tiok172
 ·cases h; exact tiok176
 ·cases h; exact tiok177
 ·cases h; exact tiok178
 ·cases h; exact tiok179
 ·cases h; exact tiok181
 ·cases h; exact tiok182
 ·cases h; exact tiok183
 ·cases h; exact tiok184
 ·cases h; exact tiok185
 ·cases h; exact tiok186
 ·cases h
def En (cs:List (Nat × FSpec)) (fs:List (Nat × FT):=[]) (is:List (Nat × (Nat→FT→Nu→FT)):=[]) (over:Bool:=false):Env:={ tt:=tt,eqs:=[],over:=over,Φ:=findN cs,Ψ:=findN fs,It:=findN is }
theorem Enk {cs:List (Nat × FSpec)} {fs:List (Nat × FT)} {is:List (Nat × (Nat→FT→Nu→FT))} {over:Bool} (h:allN (FSnd Tryz.prog) cs) (h2:allN (FTOk Tryz.prog) fs):EnvOk Tryz.prog (En cs fs is over):=⟨tt_ok,(fun _ h=>nomatch h),fun _ _=>findN_ok h,fun _ _=>findN_ok h2⟩
theorem Eni {cs:List (Nat × FSpec)} {fs:List (Nat × FT)} {is:List (Nat × (Nat→FT→Nu→FT))} {over:Bool} (h:allN (ITOk Tryz.prog) is):ItsOk Tryz.prog (En cs fs is over):=fun _ _=>findN_ok h
end Go.Proofs.YtppeponndkfbkaaGreat
/- Contracts of the small functions on words. -/
set_option maxRecDepth 20000
namespace Go.Proofs.YtppeponndkfbkaaGreat
open Go Go.Ae
def E0:Env:={ tt:=tt,eqs:=[],Φ:=fun _=>none }
theorem E0ok:EnvOk Tryz.prog E0:=⟨tt_ok,fun t h=>by simp [E0] at h,fun g S h=>by simp [E0] at h,fun g F h=>by simp [E0] at h⟩
theorem mixed:Tryz.prog.follows .mixedOrders=true:=by kernel_rfl
theorem Dok:DOk Tryz.prog drawT:=drawT_ok mixed
theorem add32_ok:Snd Tryz.prog 173 add32S:=by
 refine snd_of E0ok Dok Tryz.func173 (enters_of Tryz.func173 (by kernel_rfl) rfl) (fun _=>rfl) (fun _=>rfl) ?_
 intro ⟨x,y,c⟩ hp
 have hp:x < 4294967296∧y < 4294967296∧c≤1:=hp
 simp only [add32S]
 conv=>whnf
 simp (disch:=omega) only [wrapu64,wrapu32',shr_u64_32]
 congr
 omega
theorem sub32_ok:Snd Tryz.prog 170 sub32S:=by
 refine snd_of E0ok Dok Tryz.func170 (enters_of Tryz.func170 (by kernel_rfl) rfl) (fun _=>rfl) (fun _=>rfl) ?_
 intro ⟨x,y,c⟩ hp
 have hp:x < 4294967296∧y < 4294967296∧c≤1:=hp
 simp only [sub32S]
 conv=>whnf
 show Value.tuple ⟨[.int .u32 (sub32d x y c),.int .u32 (sub32b x y c)]⟩=_
 rw [sub32d_eq hp.1 hp.2.1 hp.2.2,sub32b_eq hp.1 hp.2.1 hp.2.2]
 split <;> rfl
theorem div32_ok:Snd Tryz.prog 171 div32S:=by
 refine snd_of E0ok Dok Tryz.func171 (enters_of Tryz.func171 (by kernel_rfl) rfl) (fun _=>rfl) (fun _=>rfl) ?_
 intro ⟨x,y,c⟩ hp
 have hp:x < c∧y < 4294967296∧c < 4294967296:=hp
 simp only [div32S]
 conv=>whnf
 have h1:((c:Int) != 0)=true:=by simp; omega
 have h2:decide ((c:Int)≤(x:Int))=false:=by simp; omega
 simp only [h1]
 conv=>whnf
 simp only [h2]
 conv=>whnf
 refine .inl ⟨11,[[],[],[1],[0,1,2],[0,1,2,3],[],[],[6],[5,6,7],[5,6,7,8],[0,1,2,3,4],[0,1,2,3,4,5,6,7,8,9,10]],by kernel_rfl,?_⟩
 conv=>whnf
 try simp (disch:=omega) only [wrapi64,wrapu64,wrapu32,wrapu8,shr_u64_32,shr_u64_31,shl_u64_32,shl_i64_8,shr_i64_8,shr_u32_8,shr_u32_16,shr_u32_24,or_word',or_byte',toNat_cast,rowAdd_eq,Nat.zero_add,capSub_zero,toNat_0,toNat_1,Nat.sub_zero,sub1c,add1c,subc,addc,tdiv4,tmod4,cast_mul8,mul8c]
 refine br_yes (decide_eq_true (by omega)) ?_
 conv=>whnf
 refine br_yes (decide_eq_true (by rw [wrapu64 (by omega) (by omega)]; omega)) ?_
 conv=>whnf
 try simp (disch:=omega) only [wrapi64,wrapu64,wrapu32,wrapu8,shr_u64_32,shr_u64_31,shl_u64_32,shl_i64_8,shr_i64_8,shr_u32_8,shr_u32_16,shr_u32_24,or_word',or_byte',toNat_cast,rowAdd_eq,Nat.zero_add,capSub_zero,toNat_0,toNat_1,Nat.sub_zero,sub1c,add1c,subc,addc,tdiv4,tmod4,cast_mul8,mul8c]
 have e1:((x:Int)*4294967296+y).tdiv c=((x*4294967296+y) / c:Nat):=rfl
 have e2:((x:Int)*4294967296+y).tmod c=((x*4294967296+y) % c:Nat):=rfl
 have e3:(x*4294967296+y) / c < 4294967296:=by
  refine (Nat.div_lt_iff_lt_mul (by omega)).2 ?_
  have:(x+1)*4294967296≤c*4294967296:=Nat.mul_le_mul_right _ hp.1
  omega
 have e4:(x*4294967296+y) % c < c:=Nat.mod_lt _ (by omega)
 generalize (x*4294967296+y) / c=q at *
 generalize (x*4294967296+y) % c=r at *
 rw [e1,e2,wrapu64 (by omega) (by omega),wrapu32 (by omega) (by omega),wrapu32 (by omega) (by omega)]
theorem len32_ok:Snd Tryz.prog 172 len32S:=by
 refine snd_of E0ok Dok Tryz.func172 (enters_of Tryz.func172 (by kernel_rfl) rfl) (fun _=>rfl) (fun _=>rfl) ?_
 intro (x:Nat) (hx:x < 4294967296)
 simp only [len32S]
 have fin:∀ (y k:Nat),y < 256→∀ (T:ByteArray),(∀ x,x < 256→byteAt T x=blen x)→k≤24→IntKind.i64.wrap ((k:Int)+IntKind.i64.wrap (byteAt T (IntKind.u8.wrap (y:Int)).toNat:Int))=((k+blen y:Nat):Int):=by
  intro y k hy T hT hk
  have hb:=blen_u8 hy
  rw [wrapu8 (by omega) (by omega),toNat_cast,hT y hy]
  simp (disch:=omega) only [wrapi64]
  omega
 conv=>whnf
 refine br_intro (fun h=>?_) (fun h=>?_)
 ·have h:65536≤x:=by simp at h; omega
  conv=>whnf
  have e1:(x:Int).fdiv (2 ^ min (Int.toNat 16) IntKind.u32.bits)=((x / 65536:Nat):Int):=by rw [shr_u32_16]; rfl
  simp only [e1]
  refine br_intro (fun h2=>?_) (fun h2=>?_)
  ·have h2:256≤x / 65536:=by simp at h2; omega
   conv=>whnf
   have e2:((x / 65536:Nat):Int).fdiv (2 ^ min (Int.toNat 8) IntKind.u32.bits)=((x / 65536 / 256:Nat):Int):=by rw [shr_u32_8]; rfl
   simp only [e2]
   refine ⟨⟨?_,?_⟩,?_⟩
   ·rw [wrapu8']; omega
   ·show _ < ((256:Nat):Int)
    rw [wrapu8']; omega
   ·conv=>whnf
    have e3:IntKind.i64.wrap (16+8)=((24:Nat):Int):=rfl
    rw [e3]
    refine congrArg (Value.int .i64) ((fin (x / 65536 / 256) 24 (by omega) _ (by decide +kernel) (by omega)).trans ?_)
    have a1:=blen_shift (x:=x) (k:=16) (by omega)
    have a2:=blen_shift (x:=x / 65536) (k:=8) (by omega)
    have q1:(2:Nat) ^ 16=65536:=rfl
    have q2:(2:Nat) ^ 8=256:=rfl
    rw [q1] at a1
    rw [q2] at a2
    rw [a1,a2]; omega
  ·have h2:x / 65536 < 256:=by simp at h2; omega
   conv=>whnf
   refine ⟨⟨?_,?_⟩,?_⟩
   ·rw [wrapu8']; omega
   ·show _ < ((256:Nat):Int)
    rw [wrapu8']; omega
   ·conv=>whnf
    refine congrArg (Value.int .i64) ((fin (x / 65536) 16 (by omega) _ (by decide +kernel) (by omega)).trans ?_)
    have a1:=blen_shift (x:=x) (k:=16) (by omega)
    have q1:(2:Nat) ^ 16=65536:=rfl
    rw [q1] at a1
    rw [a1]
 ·have h:x < 65536:=by simp at h; omega
  conv=>whnf
  refine br_intro (fun h2=>?_) (fun h2=>?_)
  ·have h2:256≤x:=by simp at h2; omega
   conv=>whnf
   have e2:(x:Int).fdiv (2 ^ min (Int.toNat 8) IntKind.u32.bits)=((x / 256:Nat):Int):=by rw [shr_u32_8]; rfl
   simp only [e2]
   refine ⟨⟨?_,?_⟩,?_⟩
   ·rw [wrapu8']; omega
   ·show _ < ((256:Nat):Int)
    rw [wrapu8']; omega
   ·conv=>whnf
    have e3:IntKind.i64.wrap (0+8)=((8:Nat):Int):=rfl
    rw [e3]
    refine congrArg (Value.int .i64) ((fin (x / 256) 8 (by omega) _ (by decide +kernel) (by omega)).trans ?_)
    have a1:=blen_shift (x:=x) (k:=8) (by omega)
    have q1:(2:Nat) ^ 8=256:=rfl
    rw [q1] at a1
    rw [a1]
  ·have h2:x < 256:=by simp at h2; omega
   conv=>whnf
   refine ⟨⟨?_,?_⟩,?_⟩
   ·rw [wrapu8']; omega
   ·show _ < ((256:Nat):Int)
    rw [wrapu8']; omega
   ·conv=>whnf
    refine congrArg (Value.int .i64) ((fin x 0 (by omega) _ (by decide +kernel) (by omega)).trans ?_)
    rw [Nat.zero_add]
def E1:Env:={ tt:=tt,eqs:=[],Φ:=fun g=>match g with | 172=>some (.p len32S) | _=>none }
theorem E1ok:EnvOk Tryz.prog E1:=⟨tt_ok,fun t h=>by simp [E1] at h,(fun g S h=>by
 simp only [E1] at h
 split at h
 ·cases h; exact len32_ok
 ·cases h),fun g F h=>by simp [E1] at h⟩
theorem lz32_ok:Snd Tryz.prog 166 lz32S:=by
 refine snd_of E1ok Dok Tryz.func166 (enters_of Tryz.func166 (by kernel_rfl) rfl) (fun _=>rfl) (fun _=>rfl) ?_
 intro (x:Nat) (hx:x < 4294967296)
 simp only [lz32S]
 conv=>whnf
 refine ⟨x,rfl,hx,?_⟩
 conv=>whnf
 have hb:=blen_u32 hx
 rw [wrapi64 (by omega) (by omega)]
 congr 1; omega
end Go.Proofs.YtppeponndkfbkaaGreat
/- Contracts of bigint: strings, limbs, their exchange. -/
set_option maxRecDepth 20000
namespace Go.Proofs.YtppeponndkfbkaaGreat
open Go Go.Ae
theorem strip_ok:Snd Tryz.prog 155 stripS:=by
 refine snd_of E0ok Dok Tryz.func155 (enters_of Tryz.func155 (by kernel_rfl) rfl) (fun _=>rfl) (fun _=>rfl) ?_
 intro (s:ByteArray) (hs:s.size≤1099511627776)
 simp only [stripS]
 conv=>whnf
 refine .inl ⟨fun mm tz hz=>∃ (u:ByteArray),Pat (some (.string u)::nos 12 []) tz∧hz=[]∧u.size=mm∧(bnat u=bnat s∧u.size≤s.size),.inl ⟨_,s,(.keep (.sk 12 .nil rfl)),rfl,rfl,?_⟩,?_⟩
 ·exact ⟨rfl,Nat.le_refl _⟩
 rintro mm tms _ ⟨u,hpat,rfl,rfl,⟨hu,hle⟩⟩
 obtain ⟨az,rfl⟩:∃ az:Nat→Value,tms=.string u::zs az 1 12 []:=pat_fill hpat
 clear hpat
 conv=>whnf
 refine br_intro (fun h1=>?_) (fun h1=>?_)
 ·simp only [h1]
  conv=>whnf
  rw [str_eq] at h1
  have h1:u.size≠0:=fun h=>by simp [empty_iff.2 h] at h1
  refine ⟨⟨by omega,by omega⟩,?_⟩
  conv=>whnf
  refine br_intro (fun h2=>?_) (fun h2=>?_)
  ·conv=>whnf
   refine ⟨⟨by omega,by omega,by omega⟩,?_⟩
   conv=>whnf
   have e1:u.extract (Int.toNat 1) (Int.toNat u.size)=u.extract 1 u.size:=rfl
   have h2:byteAt u 0=0:=by
    have h2:((byteAt u 0:Nat):Int)=0:=by simpa using h2
    omega
   have h3:=byteAt_eq (s:=u) (i:=0) (by omega)
   have h4:=bnat_lt u
   have hsz:(u.extract 1 u.size).size=u.size - 1:=size_extract' (by omega) (Nat.le_refl _)
   have hb:bnat (u.extract 1 u.size)=bnat u:=by
    rw [bnat_extract (by omega) (Nat.le_refl _),Nat.sub_self,Nat.pow_zero,Nat.div_one]
    refine Nat.mod_eq_of_lt ?_
    rw [h2,Nat.sub_zero] at h3
    have h5:bnat u / C ^ (u.size - 1) < C:=(Nat.div_lt_iff_lt_mul (Cpos _)).2 (by
     rw [Nat.mul_comm,← Nat.pow_succ,show (u.size - 1).succ=u.size by omega]; exact h4)
    rw [Nat.mod_eq_of_lt h5] at h3
    rcases Nat.lt_or_ge (bnat u) (C ^ (u.size - 1)) with h6 | h6
    ·exact h6
    ·have:=Nat.div_pos h6 (Cpos _)
     omega
   refine .inl ⟨_,?_,u.extract 1 u.size,(.keep (.sk 12 .nil rfl)),rfl,rfl,?_⟩
   ·rw [hsz]; omega
   ·exact ⟨by rw [hb,hu],by rw [hsz]; omega⟩
  ·conv=>whnf
   have h2:byteAt u 0≠0:=by
    intro h
    have e:byteAt u (Int.toNat 0)=byteAt u 0:=rfl
    rw [e,h] at h2
    simp at h2
   rw [← hu,← eq_nb' (.inr h2)]
 ·simp only [h1]
  conv=>whnf
  rw [str_eq] at h1
  have h1:u=⟨#[]⟩:=by simpa using h1
  have h2:u.size=0:=empty_iff.1 h1
  rw [← hu,← eq_nb' (.inl h2)]
def Ea:Env:={ tt:=tt,eqs:=[],Φ:=fun g=>match g with
 | 155=>some (.p stripS)
 | _=>none }
theorem Eaok:EnvOk Tryz.prog Ea:=⟨tt_ok,fun t h=>by simp [Ea] at h,(fun g S h=>by
 simp only [Ea] at h
 split at h
 ·cases h; exact strip_ok
 ·cases h),fun g F h=>by simp [Ea] at h⟩
theorem trim_ok:QSnd Tryz.prog 145 trimS:=by
 refine qsnd_of Eaok Dok Tryz.func145 (enters_of Tryz.func145 (by kernel_rfl) rfl) ?_ ?_ ?_
 ·intro i b hb
  cases i with
  | none=>simp [trimS,LV.blks] at hb
  | some i=>simp [trimS,LV.blks] at hb; rw [hb]; rfl
 ·intro i b hb; simp [trimS] at hb
 intro i hp
 cases i with
 | none =>
  conv=>whnf
  refine .inr ⟨1,?_⟩
  conv=>whnf
  exact ⟨_,rfl,.refl _⟩
 | some i =>
  obtain ⟨n,N,c⟩:=i
  have hp:N < 4294967296 ^ n∧n≤274877906944:=hp
  conv=>whnf
  refine .inl ⟨fun mm tz hz=>∃ (m:Nat),Pat (some (.slice (some ⟨0,0,none⟩) m c)::nos 20 []) tz∧hz=[some (.flat false n 1 (limbRow N))]∧m=mm∧(N < 4294967296 ^ m∧m≤n),.inl ⟨_,n,(.keep (.sk 20 .nil rfl)),rfl,rfl,?_⟩,?_⟩
  ·exact ⟨hp.1,Nat.le_refl _⟩
  rintro mm tms _ ⟨m,hpat,rfl,rfl,h⟩
  obtain ⟨az,rfl⟩:∃ az:Nat→Value,tms=.slice (some ⟨0,0,none⟩) m c::zs az 1 20 []:=pat_fill hpat
  clear hpat
  conv=>whnf
  refine br_intro (fun h1=>?_) (fun h1=>?_)
  ·simp only [h1]
   have h1:0 < m:=by simpa using h1
   conv=>whnf
   try simp (disch:=omega) only [wrapi64,wrapu64,wrapu32,wrapu8,shr_u64_32,shr_u64_31,shl_u64_32,shl_i64_8,shr_i64_8,shr_u32_8,shr_u32_16,shr_u32_24,or_word',or_byte',toNat_cast,rowAdd_eq,Nat.zero_add,capSub_zero,toNat_0,toNat_1,Nat.sub_zero,sub1c,add1c,subc,addc,tdiv4,tmod4,cast_mul8,mul8c]
   refine ⟨⟨by omega,by omega⟩,?_⟩
   try simp (disch:=omega) only [wrapi64,wrapu64,wrapu32,wrapu8,shr_u64_32,shr_u64_31,shl_u64_32,shl_i64_8,shr_i64_8,shr_u32_8,shr_u32_16,shr_u32_24,or_word',or_byte',toNat_cast,rowAdd_eq,Nat.zero_add,capSub_zero,toNat_0,toNat_1,Nat.sub_zero,sub1c,add1c,subc,addc,tdiv4,tmod4,cast_mul8,mul8c]
   conv=>whnf
   refine ⟨by omega,?_⟩
   conv=>whnf
   refine br_intro (fun h2=>?_) (fun h2=>?_)
   ·have h2:limb N (m - 1)=0:=by
     have h2:((limb N (m - 1):Nat):Int)=0:=by simpa using h2
     omega
    conv=>whnf
    try simp (disch:=omega) only [wrapi64,wrapu64,wrapu32,wrapu8,shr_u64_32,shr_u64_31,shl_u64_32,shl_i64_8,shr_i64_8,shr_u32_8,shr_u32_16,shr_u32_24,or_word',or_byte',toNat_cast,rowAdd_eq,Nat.zero_add,capSub_zero,toNat_0,toNat_1,Nat.sub_zero,sub1c,add1c,subc,addc,tdiv4,tmod4,cast_mul8,mul8c]
    refine ⟨⟨by omega,by omega,by omega⟩,?_⟩
    try simp (disch:=omega) only [wrapi64,wrapu64,wrapu32,wrapu8,shr_u64_32,shr_u64_31,shl_u64_32,shl_i64_8,shr_i64_8,shr_u32_8,shr_u32_16,shr_u32_24,or_word',or_byte',toNat_cast,rowAdd_eq,Nat.zero_add,capSub_zero,toNat_0,toNat_1,Nat.sub_zero,sub1c,add1c,subc,addc,tdiv4,tmod4,cast_mul8,mul8c]
    conv=>whnf
    refine .inl ⟨_,?_,m - 1,(.keep (.sk 20 .nil rfl)),rfl,rfl,?_⟩
    ·omega
    ·refine ⟨?_,by omega⟩
     have h3:=mod_succ N (m - 1)
     have h4:=Nat.mod_lt N (Bpos (m - 1))
     rw [show m - 1+1=m by omega,h2,Nat.mod_eq_of_lt h.1] at h3
     have h5:N % B ^ (m - 1) < 4294967296 ^ (m - 1):=h4
     omega
   ·have h2:limb N (m - 1)≠0:=by
     intro h
     rw [h] at h2
     simp at h2
    conv=>whnf
    have e:=nl_eq (N:=N) (n:=m) h.1 (.inr h2)
    refine ⟨_,rfl,?_⟩
    rw [e]
    exact .refl _
  ·simp only [h1]
   have h1:m=0:=by simpa using h1
   conv=>whnf
   have e:=nl_eq (N:=N) (n:=m) h.1 (.inl h1)
   refine ⟨_,rfl,?_⟩
   rw [e]
   exact .refl _
theorem load_ok:QSnd Tryz.prog 124 loadS:=by
 refine qsnd_of Eaok Dok Tryz.func124 (enters_of Tryz.func124 (by kernel_rfl) rfl) ?_ ?_ ?_
 ·intro i b hb; simp [loadS] at hb
 ·intro i b hb; simp [loadS] at hb; rw [← hb]; rfl
 intro (s:ByteArray) (hs:s.size≤1099511627776)
 conv=>whnf
 refine ⟨s,rfl,hs,?_⟩
 conv=>whnf
 have hsz:=nby_bnat_le s
 have hnl:=nl_nby (bnat s)
 generalize hN:bnat s=N at *
 have e1:IntKind.i64.wrap ((IntKind.i64.wrap (IntKind.i64.wrap (((nb N).size:Int)+4) - 1)).tdiv 4)=((nl N:Nat):Int):=by
  rw [nb_size]
  simp (disch:=omega) only [wrapi64]
  have:((nby N:Int)+4 - 1)=((nby N+3:Nat):Int):=by omega
  rw [this,tdiv4,wrapi64 (by omega) (by omega),hnl]
 simp only [e1]
 refine ⟨⟨by omega,by omega,by show _*((4:Nat):Int)≤_; omega⟩,?_⟩
 try simp (disch:=omega) only [wrapi64,wrapu64,wrapu32,wrapu8,shr_u64_32,shr_u64_31,shl_u64_32,shl_i64_8,shr_i64_8,shr_u32_8,shr_u32_16,shr_u32_24,or_word',or_byte',toNat_cast,rowAdd_eq,Nat.zero_add,capSub_zero,toNat_0,toNat_1,Nat.sub_zero,sub1c,add1c,subc,addc,tdiv4,tmod4,cast_mul8,mul8c]
 conv=>whnf
 simp only [limbRow_zero]
 refine .inl ⟨fun mm tz hz=>∃ (i:Nat) (Y:Nat),Pat (some (.string (nb N))::nos 2 (some (.slice (some ⟨0,0,none⟩) (nl N) (nl N))::nos 11 (some (.int .i64 (nb N).size)::some (.int .i64 i)::nos 24 []))) tz∧hz=[some (.flat true (nl N) 1 (limbRow Y))]∧nby N - i=mm∧(i≤nby N∧Y=N % C ^ i),.inl ⟨_,0,0,(.keep (.sk 2 (.keep (.sk 11 (.keep (.keep (.sk 24 .nil rfl))) rfl)) rfl)),rfl,rfl,?_⟩,?_⟩
 ·exact ⟨Nat.zero_le _,by simp [Nat.mod_one]⟩
 rintro mm tms _ ⟨i,Y,hpat,rfl,rfl,⟨h,hY⟩⟩
 obtain ⟨az,rfl⟩:∃ az:Nat→Value,tms=.string (nb N)::zs az 1 2 (.slice (some ⟨0,0,none⟩) (nl N) (nl N)::zs az 4 11 (.int .i64 (nb N).size::.int .i64 i::zs az 17 24 [])):=pat_fill hpat
 clear hpat
 have hsz2:=nb_size N
 conv=>whnf
 refine br_intro (fun h1=>?_) (fun h1=>?_)
 ·have h1:i < nby N:=by rw [hsz2] at h1; simpa using h1
  conv=>whnf
  have hby:=byteAt_lt (nb N) ((nb N).size - 1 - i)
  have hbe:byteAt (nb N) ((nb N).size - 1 - i)=N / C ^ i % C:=by
   rw [byteAt_eq (by omega),bnat_nb]; congr 3; omega
  obtain ⟨hst,hlt⟩:=load_step N i
  rw [← hY,← hbe] at hst
  rw [← hY] at hlt
  have hd:=or_shift32 _ _ _ hlt hby (Nat.mod_lt _ (by omega))
  have hd2:limb Y (i / 4)+byteAt (nb N) ((nb N).size - 1 - i)*256 ^ (i % 4) < B:=by
   have h2:(byteAt (nb N) ((nb N).size - 1 - i)+1)*256 ^ (i % 4)≤256*256 ^ (i % 4):=Nat.mul_le_mul_right _ hby
   have h3:256*256 ^ (i % 4)≤B:=by
    have:(256:Nat) ^ (i % 4)≤256 ^ 3:=Nat.pow_le_pow_right (by decide) (by omega)
    have e:(256:Nat) ^ 3=16777216:=rfl
    have e2:B=4294967296:=rfl
    omega
   rw [Nat.add_mul] at h2
   omega
  refine .inl ⟨13,[[],[],[1],[0,1,2],[0,1,2,3],[],[],[5,6],[5,6,7],[],[9],[9,10],[5,6,7,8,9,10,11],[0,1,2,3,4,5,6,7,8,9,10,11,12],[0,1,2,3,4,5,6,7,8,9,10,11,12,13],[0,1,2,3,4,5,6,7,8,9,10,11,12,13,14]],by kernel_rfl,?_⟩
  conv=>whnf
  try simp (disch:=omega) only [wrapi64,wrapu64,wrapu32,wrapu8,shr_u64_32,shr_u64_31,shl_u64_32,shl_i64_8,shr_i64_8,shr_u32_8,shr_u32_16,shr_u32_24,or_word',or_byte',toNat_cast,rowAdd_eq,Nat.zero_add,capSub_zero,toNat_0,toNat_1,Nat.sub_zero,sub1c,add1c,subc,addc,tdiv4,tmod4,cast_mul8,mul8c]
  refine ⟨⟨by omega,by omega⟩,?_⟩
  conv=>whnf
  refine ⟨by show i / 4 < nl N; omega,?_⟩
  conv=>whnf
  refine ⟨⟨by omega,by omega⟩,?_⟩
  conv=>whnf
  have hby':byteAt (nb N) ((nb N).size - 1 - i) < 256:=hby
  try simp (disch:=omega) only [wrapi64,wrapu64,wrapu32,wrapu8,shr_u64_32,shr_u64_31,shl_u64_32,shl_i64_8,shr_i64_8,shr_u32_8,shr_u32_16,shr_u32_24,or_word',or_byte',toNat_cast,rowAdd_eq,Nat.zero_add,capSub_zero,toNat_0,toNat_1,Nat.sub_zero,sub1c,add1c,subc,addc,tdiv4,tmod4,cast_mul8,mul8c]
  simp only [Int.natCast_nonneg,decide_true]
  conv=>whnf
  simp only [hd]
  refine ⟨⟨by omega,by omega⟩,?_⟩
  conv=>whnf
  refine ⟨by show i / 4 < nl N; omega,?_⟩
  conv=>whnf
  try simp (disch:=omega) only [wrapi64,wrapu64,wrapu32,wrapu8,shr_u64_32,shr_u64_31,shl_u64_32,shl_i64_8,shr_i64_8,shr_u32_8,shr_u32_16,shr_u32_24,or_word',or_byte',toNat_cast,rowAdd_eq,Nat.zero_add,capSub_zero,toNat_0,toNat_1,Nat.sub_zero,sub1c,add1c,subc,addc,tdiv4,tmod4,cast_mul8,mul8c]
  rw [limbRow_set hd2,hst]
  refine .inr ⟨[0],[0,3,15,16],?_⟩
  conv=>whnf
  intro _
  conv=>whnf
  refine ⟨_,?_,i+1,N % C ^ (i+1),(.keep (.sk 2 (.keep (.sk 11 (.keep (.keep (.sk 24 .nil rfl))) rfl)) rfl)),rfl,rfl,?_⟩
  ·omega
  ·exact ⟨by omega,rfl⟩
 ·have h1:i=nby N:=by
   have h1:¬ i < nby N:=by rw [hsz2] at h1; simpa using h1
   omega
  subst h1
  have hYN:Y=bnat s:=by rw [hY,hN,Nat.mod_eq_of_lt (lt_nby N)]
  conv=>whnf
  refine ⟨0,?_⟩
  conv=>whnf
  rw [hYN,hN]
  refine ⟨⟨rfl,BlkLe.flat_flat (fun h=>by cases h) (fun r hr=>rfl)⟩,_,rfl,?_⟩
  rw [hN]
  exact .cap _ _ _ rfl
end Go.Proofs.YtppeponndkfbkaaGreat
/- Contracts of bigint: limbs as digits. -/
set_option maxRecDepth 20000
namespace Go.Proofs.YtppeponndkfbkaaGreat
open Go Go.Ae
theorem store_ok:QSnd Tryz.prog 146 storeS:=by
 refine qsnd_of Eaok Dok Tryz.func146 (enters_of Tryz.func146 (by kernel_rfl) rfl) ?_ ?_ ?_
 ·intro i b hb
  cases i with
  | none=>simp [storeS,LV.blks] at hb
  | some i=>simp [storeS,LV.blks] at hb; rw [hb]; rfl
 ·intro i b hb; simp [storeS] at hb
 intro i hp
 cases i with
 | none =>
  conv=>whnf
  refine .inr ⟨1,?_⟩
  conv=>whnf
  refine ⟨⟨#[]⟩,rfl,Nat.zero_le _,?_⟩
  conv=>whnf
  exact ⟨_,rfl,.refl _⟩
 | some i =>
  obtain ⟨n,N,c⟩:=i
  have hp:N < 4294967296 ^ n∧n≤274877906944:=hp
  conv=>whnf
  refine .inl ⟨fun mm tz hz=>∃ (i:Nat) (out:Value) (hp:Heap),Pat (some (.slice (some ⟨0,0,none⟩) n c)::nos 2 (some (out)::some (.int .i64 (IntKind.i64.wrap ((i:Int) - 1)))::nos 36 [])) tz∧hz=hp∧i=mm∧(i≤n∧((out=.slice none 0 0∧hp=[some (.flat false n 1 (limbRow N))]∧i=n)∨(∃ m g,out=.slice (some ⟨1,0,none⟩) m capU∧hp=[some (.flat false n 1 (limbRow N)),some (.flat true m 1 g)]∧m=4*(n - i)∧∀ r,r < m→g r=[.int .u8 ((N / B ^ i / C ^ (m - 1 - r) % C:Nat):Int)]))),.inl ⟨_,n,.slice none 0 0,[some (.flat false n 1 (limbRow N))],(.keep (.sk 2 (.keep (.keep (.sk 36 .nil rfl))) rfl)),rfl,rfl,?_⟩,?_⟩
  ·exact ⟨Nat.le_refl _,.inl ⟨rfl,rfl,rfl⟩⟩
  rintro mm tms _ ⟨i,out,hp,hpat,rfl,rfl,⟨hi,h⟩⟩
  obtain ⟨az,rfl⟩:∃ az:Nat→Value,tms=.slice (some ⟨0,0,none⟩) n c::zs az 1 2 (out::.int .i64 (IntKind.i64.wrap ((i:Int) - 1))::zs az 5 36 []):=pat_fill hpat
  clear hpat
  rcases h with ⟨rfl,rfl,rfl⟩ | ⟨m,g,rfl,rfl,rfl,hg⟩
  ·-- nothing written yet
   conv=>whnf
   refine br_intro (fun h1=>?_) (fun h1=>?_)
   ·have h1:0 < i:=by
     rcases Nat.eq_zero_or_pos i with h | h
     ·subst h; revert h1; decide
     ·exact h
    have hl:=limb_lt N (i - 1)
    have hl:limb N (i - 1) < 4294967296:=hl
    have ei:IntKind.i64.wrap ((i:Int) - 1)=((i - 1:Nat):Int):=by rw [wrapi64 (by omega) (by omega)]; omega
    simp only [ei]
    conv=>whnf
    refine .inl ⟨25,[[],[],[],[1,2],[1,2,3],[1,2,3,4],[1,2,3,4,5],[],[],[7,8],[7,8,9],[7,8,9,10],[7,8,9,10,11],[],[],[13,14],[13,14,15],[13,14,15,16],[13,14,15,16,17],[],[],[19,20],[19,20,21],[19,20,21,22],[1,2,3,4,5,6,7,8,9,10,11,12,13,14,15,16,17,18,19,20,21,22,23],[0,1,2,3,4,5,6,7,8,9,10,11,12,13,14,15,16,17,18,19,20,21,22,23,24],[0,1,2,3,4,5,6,7,8,9,10,11,12,13,14,15,16,17,18,19,20,21,22,23,24,25]],by kernel_rfl,?_⟩
    conv=>whnf
    refine ⟨⟨by omega,by omega⟩,?_⟩
    simp only [toNat_cast,rowAdd_eq,Nat.zero_add]
    conv=>whnf
    refine ⟨by omega,?_⟩
    conv=>whnf
    refine ⟨⟨by omega,by omega⟩,?_⟩
    simp only [toNat_cast,rowAdd_eq,Nat.zero_add]
    conv=>whnf
    refine ⟨by omega,?_⟩
    conv=>whnf
    refine ⟨⟨by omega,by omega⟩,?_⟩
    simp only [toNat_cast,rowAdd_eq,Nat.zero_add]
    conv=>whnf
    refine ⟨by omega,?_⟩
    conv=>whnf
    refine ⟨⟨by omega,by omega⟩,?_⟩
    simp only [toNat_cast,rowAdd_eq,Nat.zero_add]
    conv=>whnf
    refine ⟨by omega,?_⟩
    conv=>whnf
    simp only [shr_u32_24,shr_u32_16,shr_u32_8,u8_24,u8_16,u8_8,u8_0]
    refine ⟨by decide,?_⟩
    conv=>whnf
    refine .inr ⟨[0,26],[0,3,4],?_⟩
    conv=>whnf
    intro _
    conv=>whnf
    refine ⟨_,?_,i - 1,.slice (some ⟨1,0,none⟩) 4 capU,[some (.flat false i 1 (limbRow N)),some (.flat true 4 1 _)],(.keep (.sk 2 (.keep (.keep (.sk 36 .nil rfl))) rfl)),rfl,rfl,?_⟩
    ·omega
    ·refine ⟨by omega,.inr ⟨4,_,rfl,rfl,by omega,fun r hr=>?_⟩⟩
     have:=store_rows (N:=N) (i:=i) (m:=0) (g:=fun _=>[]) h1 (fun r hr=>absurd hr (by omega)) rfl rfl rfl rfl r (by omega)
     rw [appGet_hi (by omega),Nat.sub_zero] at this
     rw [this]
   ·have h1:i=0:=by
     rcases Nat.eq_zero_or_pos i with h | h
     ·exact h
     ·rw [wrapi64 (by omega) (by omega)] at h1
      simp at h1; omega
    subst h1
    have hN:N=0:=by simpa using hp.1
    subst hN
    conv=>whnf
    refine ⟨⟨#[]⟩,rfl,Nat.zero_le _,?_⟩
    conv=>whnf
    exact ⟨_,rfl,.refl _⟩
  ·-- behind the first limb
   conv=>whnf
   refine br_intro (fun h1=>?_) (fun h1=>?_)
   ·have h1:0 < i:=by
     rcases Nat.eq_zero_or_pos i with h | h
     ·subst h; revert h1; decide
     ·exact h
    have hl:=limb_lt N (i - 1)
    have hl:limb N (i - 1) < 4294967296:=hl
    have ei:IntKind.i64.wrap ((i:Int) - 1)=((i - 1:Nat):Int):=by rw [wrapi64 (by omega) (by omega)]; omega
    simp only [ei]
    conv=>whnf
    refine .inl ⟨25,[[],[],[],[1,2],[1,2,3],[1,2,3,4],[1,2,3,4,5],[],[],[7,8],[7,8,9],[7,8,9,10],[7,8,9,10,11],[],[],[13,14],[13,14,15],[13,14,15,16],[13,14,15,16,17],[],[],[19,20],[19,20,21],[19,20,21,22],[1,2,3,4,5,6,7,8,9,10,11,12,13,14,15,16,17,18,19,20,21,22,23],[0,1,2,3,4,5,6,7,8,9,10,11,12,13,14,15,16,17,18,19,20,21,22,23,24],[0,1,2,3,4,5,6,7,8,9,10,11,12,13,14,15,16,17,18,19,20,21,22,23,24,25]],by kernel_rfl,?_⟩
    conv=>whnf
    refine ⟨⟨by omega,by omega⟩,?_⟩
    simp only [toNat_cast,rowAdd_eq,Nat.zero_add]
    conv=>whnf
    refine ⟨by omega,?_⟩
    conv=>whnf
    refine ⟨⟨by omega,by omega⟩,?_⟩
    simp only [toNat_cast,rowAdd_eq,Nat.zero_add]
    conv=>whnf
    refine ⟨by omega,?_⟩
    conv=>whnf
    refine ⟨⟨by omega,by omega⟩,?_⟩
    simp only [toNat_cast,rowAdd_eq,Nat.zero_add]
    conv=>whnf
    refine ⟨by omega,?_⟩
    conv=>whnf
    refine ⟨⟨by omega,by omega⟩,?_⟩
    simp only [toNat_cast,rowAdd_eq,Nat.zero_add]
    conv=>whnf
    refine ⟨by omega,?_⟩
    conv=>whnf
    simp only [shr_u32_24,shr_u32_16,shr_u32_8,u8_24,u8_16,u8_8,u8_0]
    refine ⟨⟨by decide,rfl,?_⟩,?_⟩
    ·show (4*(n - i)+4)*1≤_
     omega
    conv=>whnf
    refine ⟨[0,4],?_⟩
    conv=>whnf
    intro _
    conv=>whnf
    refine .inr ⟨[0,1],[0,3,4],?_⟩
    conv=>whnf
    intro _
    conv=>whnf
    refine ⟨_,?_,i - 1,.slice (some ⟨1,0,none⟩) (4*(n - i)+4) capU,[some (.flat false n 1 (limbRow N)),some (.flat true (4*(n - i)+4) 1 _)],(.keep (.sk 2 (.keep (.keep (.sk 36 .nil rfl))) rfl)),rfl,rfl,?_⟩
    ·omega
    ·exact ⟨by omega,.inr ⟨4*(n - i)+4,_,rfl,rfl,by omega,store_rows h1 hg rfl rfl rfl rfl⟩⟩
   ·have h1:i=0:=by
     rcases Nat.eq_zero_or_pos i with h | h
     ·exact h
     ·rw [wrapi64 (by omega) (by omega)] at h1
      simp at h1; omega
    subst h1
    rw [Nat.pow_zero,Nat.div_one] at hg
    rw [Nat.sub_zero] at hg
    have hlt:N < C ^ (4*n):=by rw [← B_eq]; exact hp.1
    by_cases hn:n=0
    ·subst hn
     have hN:N=0:=by simpa using hp.1
     subst hN
     conv=>whnf
     refine ⟨⟨#[]⟩,rfl,Nat.zero_le _,?_⟩
     conv=>whnf
     exact ⟨_,rfl,.refl _⟩
    ·obtain ⟨m,hm⟩:∃ m,4*n=m+1:=⟨4*n - 1,by omega⟩
     rw [hm] at hg hlt
     rw [Nat.sub_zero,hm]
     have hs:=bytesOf_be hg
     conv=>whnf
     refine ⟨⟨by show 0+(m+1)≤m+1; omega,fun r hr=>⟨_,by show g (0+r)=_; rw [Nat.zero_add]; exact hg r hr⟩⟩,?_⟩
     rw [show (Blk.flat true (m+1) 1 g).row=g from rfl,hs]
     conv=>whnf
     refine ⟨be (m+1) N,rfl,?_,?_⟩
     ·show (be (m+1) N).size≤_
      rw [be_size]; omega
     conv=>whnf
     rw [bnat_be,Nat.mod_eq_of_lt hlt]
     exact ⟨_,rfl,.refl _⟩
def Eb:Env:={ tt:=tt,eqs:=[],Φ:=fun g=>match g with
 | 155=>some (.p stripS)
 | 145=>some (.q trimS)
 | 146=>some (.q storeS)
 | 124=>some (.q loadS)
 | _=>none }
theorem Ebok:EnvOk Tryz.prog Eb:=⟨tt_ok,fun t h=>by simp [Eb] at h,(fun g S h=>by
 simp only [Eb] at h
 split at h
 ·cases h; exact strip_ok
 ·cases h; exact trim_ok
 ·cases h; exact store_ok
 ·cases h; exact load_ok
 ·cases h),fun g F h=>by simp [Eb] at h⟩
theorem pack_ok:QSnd Tryz.prog 116 packS:=by
 refine qsnd_of Ebok Dok Tryz.func116 (enters_of Tryz.func116 (by kernel_rfl) rfl) ?_ ?_ ?_
 ·intro i b hb
  obtain ⟨neg,i⟩:=i
  cases i with
  | none=>simp [packS,LV.blks] at hb
  | some i=>simp [packS,LV.blks] at hb; rw [hb]; rfl
 ·intro i b hb; simp [packS] at hb
 intro ⟨neg,i⟩ hp
 have fin:∀ N:Nat,(!(nb N).toList == (⟨#[]⟩:ByteArray).toList)=(N != 0):=by
  intro N
  rw [str_eq]
  by_cases h:N=0
  ·subst h; simp [nb_zero]
  ·simp [h,nb_empty_iff]
 cases i with
 | none =>
  cases neg
  all_goals
   conv=>whnf
   refine ⟨none,[],rfl,trivial,?_⟩
   conv=>whnf
   refine ⟨_,rfl,?_⟩
   conv=>whnf
   refine ⟨none,[],rfl,trivial,?_⟩
   conv=>whnf
   refine ⟨_,rfl,?_⟩
   conv=>whnf
   simp only [LV.num,fin]
   exact ⟨_,rfl,.refl _⟩
 | some i =>
  obtain ⟨n,N,c⟩:=i
  have hp:N < 4294967296 ^ n∧n≤274877906944:=hp
  have hnl:=nl_le hp.1
  cases neg
  all_goals
   conv=>whnf
   refine ⟨some (n,N,c),[0],rfl,hp,?_⟩
   conv=>whnf
   refine ⟨BlkLe.flat_flat (fun h=>h) (fun r hr=>rfl),?_⟩
   conv=>whnf
   refine ⟨_,rfl,?_⟩
   conv=>whnf
   refine ⟨some (nl N,N,c),[0],rfl,⟨lt_nl N,by omega⟩,?_⟩
   conv=>whnf
   refine ⟨?_,?_⟩
   ·exact ⟨(fun h=>by cases h),rfl,hnl,fun _ _=>rfl,fun r hr v hv=>allS_spec (l:=limbRow N r) rfl v hv⟩
   conv=>whnf
   refine ⟨_,rfl,?_⟩
   conv=>whnf
   simp only [LV.num,fin]
   exact ⟨_,rfl,.refl _⟩
end Go.Proofs.YtppeponndkfbkaaGreat
/- Contracts of bigint: comparison, sum, difference. -/
set_option maxRecDepth 20000
namespace Go.Proofs.YtppeponndkfbkaaGreat
open Go Go.Ae
theorem compare_ok:QSnd Tryz.prog 125 compareS:=by
 refine qsnd_of Ebok Dok Tryz.func125 (enters_of Tryz.func125 (by kernel_rfl) rfl) ?_ ?_ ?_
 ·intro i b hb; simp [compareS,blk2] at hb; rcases hb with rfl | rfl <;> rfl
 ·intro i b hb; simp [compareS] at hb
 intro ⟨A,ca,D,cd⟩ hp
 have hp:nl A≤137438953472∧nl D≤137438953472:=hp
 conv=>whnf
 refine br_intro (fun h=>?_) (fun h=>?_)
 ·have h:nl A≠nl D:=by
   intro e
   have e':((nl A:Nat):Int)=((nl D:Nat):Int):=by rw [e]
   simp [e'] at h
  conv=>whnf
  refine br_intro (fun h2=>?_) (fun h2=>?_)
  ·have h2:nl A < nl D:=by simpa using h2
   conv=>whnf
   have:=lt_of_nl_lt h2
   refine ⟨_,rfl,?_⟩
   simp only [cmpN,if_pos this]
   exact .refl _
  ·have h2:nl D < nl A:=by
    have h2:¬ nl A < nl D:=by simpa using h2
    omega
   conv=>whnf
   have:=lt_of_nl_lt h2
   refine ⟨_,rfl,?_⟩
   simp only [cmpN,if_neg (show ¬ A < D by omega),if_pos this]
   exact .refl _
 ·have h:nl D=nl A:=by
   by_cases e:nl A=nl D
   ·exact e.symm
   ·have e':((nl A:Nat):Int)≠((nl D:Nat):Int):=by omega
    simp [e'] at h
  conv=>whnf
  refine .inl ⟨fun mm tz hz=>∃ (i:Nat),Pat (some (.slice (some ⟨0,0,none⟩) (nl A) ca)::some (.slice (some ⟨1,0,none⟩) (nl D) cd)::nos 3 (some (.int .i64 (IntKind.i64.wrap ((i:Int) - 1)))::nos 37 [])) tz∧hz=[some (.flat false (nl A) 1 (limbRow A)),some (.flat false (nl D) 1 (limbRow D))]∧i=mm∧(i≤nl A∧A / B ^ i=D / B ^ i),.inl ⟨_,nl A,(.keep (.keep (.sk 3 (.keep (.sk 37 .nil rfl)) rfl))),rfl,rfl,?_⟩,?_⟩
  ·refine ⟨Nat.le_refl _,?_⟩
   have h1:=lt_nl A
   have h2:=lt_nl D
   rw [h] at h2
   rw [Nat.div_eq_of_lt h1,Nat.div_eq_of_lt h2]
  rintro mm tms _ ⟨i,hpat,rfl,rfl,⟨hi,he⟩⟩
  obtain ⟨az,rfl⟩:∃ az:Nat→Value,tms=.slice (some ⟨0,0,none⟩) (nl A) ca::.slice (some ⟨1,0,none⟩) (nl D) cd::zs az 2 3 (.int .i64 (IntKind.i64.wrap ((i:Int) - 1))::zs az 6 37 []):=pat_fill hpat
  clear hpat
  conv=>whnf
  refine br_intro (fun h1=>?_) (fun h1=>?_)
  ·have h1:0 < i:=by
    rcases Nat.eq_zero_or_pos i with h | h
    ·subst h; revert h1; decide
    ·exact h
   have ei:IntKind.i64.wrap ((i:Int) - 1)=((i - 1:Nat):Int):=by rw [wrapi64 (by omega) (by omega)]; omega
   have hA:=div_succ A (i - 1)
   have hD:=div_succ D (i - 1)
   rw [show i - 1+1=i by omega] at hA hD
   rw [← he] at hD
   simp only [ei]
   conv=>whnf
   refine .inl ⟨8,[[],[],[0,1],[0,1,2],[],[],[4,5],[4,5,6],[0,1,2,3,4,5,6,7],[0,1,2,3,4,5,6,7,8]],by kernel_rfl,?_⟩
   conv=>whnf
   refine ⟨⟨by omega,by omega⟩,?_⟩
   try simp (disch:=omega) only [wrapi64,wrapu64,wrapu32,wrapu8,shr_u64_32,shr_u64_31,shl_u64_32,shl_i64_8,shr_i64_8,shr_u32_8,shr_u32_16,shr_u32_24,or_word',or_byte',toNat_cast,rowAdd_eq,Nat.zero_add,capSub_zero,toNat_0,toNat_1,Nat.sub_zero,sub1c,add1c,subc,addc,tdiv4,tmod4,cast_mul8,mul8c]
   conv=>whnf
   refine ⟨by show i - 1 < nl A; omega,?_⟩
   conv=>whnf
   refine ⟨⟨by omega,by omega⟩,?_⟩
   try simp (disch:=omega) only [wrapi64,wrapu64,wrapu32,wrapu8,shr_u64_32,shr_u64_31,shl_u64_32,shl_i64_8,shr_i64_8,shr_u32_8,shr_u32_16,shr_u32_24,or_word',or_byte',toNat_cast,rowAdd_eq,Nat.zero_add,capSub_zero,toNat_0,toNat_1,Nat.sub_zero,sub1c,add1c,subc,addc,tdiv4,tmod4,cast_mul8,mul8c]
   conv=>whnf
   refine ⟨by show i - 1 < nl D; omega,?_⟩
   conv=>whnf
   refine br_intro (fun h2=>?_) (fun h2=>?_)
   ·have h2:limb A (i - 1) < limb D (i - 1):=by simpa using h2
    conv=>whnf
    have hlt:A < D:=by
     rcases Nat.lt_or_ge A D with h | h
     ·exact h
     ·have:=Nat.div_le_div_right (c:=B ^ (i - 1)) h
      omega
    refine ⟨_,rfl,?_⟩
    simp only [cmpN,if_pos hlt]
    exact .refl _
   ·have h2:limb D (i - 1)≤limb A (i - 1):=by simpa using h2
    conv=>whnf
    refine .inl ⟨8,[[],[],[0,1],[0,1,2],[],[],[4,5],[4,5,6],[0,1,2,3,4,5,6,7],[0,1,2,3,4,5,6,7,8]],by kernel_rfl,?_⟩
    conv=>whnf
    refine ⟨⟨by omega,by omega⟩,?_⟩
    try simp (disch:=omega) only [wrapi64,wrapu64,wrapu32,wrapu8,shr_u64_32,shr_u64_31,shl_u64_32,shl_i64_8,shr_i64_8,shr_u32_8,shr_u32_16,shr_u32_24,or_word',or_byte',toNat_cast,rowAdd_eq,Nat.zero_add,capSub_zero,toNat_0,toNat_1,Nat.sub_zero,sub1c,add1c,subc,addc,tdiv4,tmod4,cast_mul8,mul8c]
    conv=>whnf
    refine ⟨by show i - 1 < nl A; omega,?_⟩
    conv=>whnf
    refine ⟨⟨by omega,by omega⟩,?_⟩
    try simp (disch:=omega) only [wrapi64,wrapu64,wrapu32,wrapu8,shr_u64_32,shr_u64_31,shl_u64_32,shl_i64_8,shr_i64_8,shr_u32_8,shr_u32_16,shr_u32_24,or_word',or_byte',toNat_cast,rowAdd_eq,Nat.zero_add,capSub_zero,toNat_0,toNat_1,Nat.sub_zero,sub1c,add1c,subc,addc,tdiv4,tmod4,cast_mul8,mul8c]
    conv=>whnf
    refine ⟨by show i - 1 < nl D; omega,?_⟩
    conv=>whnf
    refine br_intro (fun h3=>?_) (fun h3=>?_)
    ·have h3:limb D (i - 1) < limb A (i - 1):=by simpa using h3
     conv=>whnf
     have hlt:D < A:=by
      rcases Nat.lt_or_ge D A with h | h
      ·exact h
      ·have:=Nat.div_le_div_right (c:=B ^ (i - 1)) h
       omega
     refine ⟨_,rfl,?_⟩
     simp only [cmpN,if_neg (show ¬ A < D by omega),if_pos hlt]
     exact .refl _
    ·have h3:limb A (i - 1)≤limb D (i - 1):=by simpa using h3
     conv=>whnf
     refine .inr ⟨[0,1],[0,1,5],?_⟩
     conv=>whnf
     intro _
     conv=>whnf
     refine ⟨_,?_,i - 1,(.keep (.keep (.sk 3 (.keep (.sk 37 .nil rfl)) rfl))),rfl,rfl,?_⟩
     ·omega
     ·refine ⟨by omega,?_⟩
      rw [hA,hD,show limb A (i - 1)=limb D (i - 1) by omega]
  ·have h1:i=0:=by
    rcases Nat.eq_zero_or_pos i with h | h
    ·exact h
    ·rw [wrapi64 (by omega) (by omega)] at h1
     simp at h1; omega
   subst h1
   rw [Nat.pow_zero,Nat.div_one,Nat.div_one] at he
   conv=>whnf
   refine ⟨_,rfl,?_⟩
   simp only [cmpN,he,Nat.lt_irrefl,if_false]
   exact .refl _
def Ec:Env:={ tt:=tt,eqs:=[],Φ:=fun g=>match g with
 | 155=>some (.p stripS)
 | 145=>some (.q trimS)
 | 170=>some (.p sub32S)
 | _=>none }
theorem Ecok:EnvOk Tryz.prog Ec:=⟨tt_ok,fun t h=>by simp [Ec] at h,(fun g S h=>by
 simp only [Ec] at h
 split at h
 ·cases h; exact strip_ok
 ·cases h; exact trim_ok
 ·cases h; exact sub32_ok
 ·cases h),fun g F h=>by simp [Ec] at h⟩
theorem minus_ok:QSnd Tryz.prog 159 minusS:=by
 refine qsnd_of Ecok Dok Tryz.func159 (enters_of Tryz.func159 (by kernel_rfl) rfl) ?_ ?_ ?_
 ·intro i b hb; simp [minusS,blk2] at hb; rcases hb with rfl | rfl <;> rfl
 ·intro i b hb; simp [minusS] at hb; rw [← hb]; rfl
 intro ⟨A,ca,D,cd⟩ hp
 have hp:(nl A≤137438953472∧nl D≤137438953472)∧D≤A:=hp
 have hnl:=nl_mono hp.2
 conv=>whnf
 refine ⟨⟨by omega,by omega,by show ((nl A:Nat):Int)*((4:Nat):Int)≤_; omega⟩,?_⟩
 simp only [toNat_cast,limbRow_zero]
 conv=>whnf
 refine .inl ⟨fun mm tz hz=>∃ (i:Nat) (Y:Nat) (b:Nat),Pat (some (.slice (some ⟨0,0,none⟩) (nl A) ca)::some (.slice (some ⟨1,0,none⟩) (nl D) cd)::nos 3 (some (.slice (some ⟨2,0,none⟩) (nl A) (nl A))::some (.int .u32 b)::nos 6 (some (.slice (some ⟨0,0,none⟩) (nl A) ca)::some (.int .i64 (nl A))::some (.int .i64 i)::nos 25 []))) tz∧hz=[some (.flat false (nl A) 1 (limbRow A)),some (.flat false (nl D) 1 (limbRow D)),some (.flat true (nl A) 1 (limbRow Y))]∧nl A - i=mm∧(i≤nl A∧b≤1∧Y < B ^ i∧A % B ^ i+b*B ^ i=Y+D % B ^ i),.inl ⟨_,0,0,0,(.keep (.keep (.sk 3 (.keep (.keep (.sk 6 (.keep (.keep (.keep (.sk 25 .nil rfl)))) rfl))) rfl))),rfl,rfl,?_⟩,?_⟩
 ·simp [Nat.mod_one]
 rintro mm tms _ ⟨i,Y,b,hpat,rfl,rfl,⟨hi,hb,hY,he⟩⟩
 obtain ⟨az,rfl⟩:∃ az:Nat→Value,tms=.slice (some ⟨0,0,none⟩) (nl A) ca::.slice (some ⟨1,0,none⟩) (nl D) cd::zs az 2 3 (.slice (some ⟨2,0,none⟩) (nl A) (nl A)::.int .u32 b::zs az 7 6 (.slice (some ⟨0,0,none⟩) (nl A) ca::.int .i64 (nl A)::.int .i64 i::zs az 16 25 [])):=pat_fill hpat
 clear hpat
 conv=>whnf
 refine br_intro (fun h1=>?_) (fun h1=>?_)
 ·have h1:i < nl A:=by simpa using h1
  conv=>whnf
  refine ⟨⟨by omega,by omega⟩,?_⟩
  try simp (disch:=omega) only [wrapi64,wrapu64,wrapu32,wrapu8,shr_u64_32,shr_u64_31,shl_u64_32,shl_i64_8,shr_i64_8,shr_u32_8,shr_u32_16,shr_u32_24,or_word',or_byte',toNat_cast,rowAdd_eq,Nat.zero_add,capSub_zero,toNat_0,toNat_1,Nat.sub_zero,sub1c,add1c,subc,addc,tdiv4,tmod4,cast_mul8,mul8c]
  conv=>whnf
  refine ⟨by show i < nl A; omega,?_⟩
  conv=>whnf
  have hlA:=limb_lt A i
  have hlD:=limb_lt D i
  have hdd:∃ d,d=(limb A i+2*4294967296 - limb D i - b) % 4294967296:=⟨_,rfl⟩
  obtain ⟨d,hd⟩:=hdd
  have hdB:d < B:=by rw [hd]; exact Nat.mod_lt _ (by decide)
  have hst:=minus_step (b':=if limb A i < limb D i+b then 1 else 0) hY he (by
   have e:B=4294967296:=rfl
   split <;> omega) hdB
  refine br_intro (fun h2=>?_) (fun h2=>?_)
  ·have h2:i < nl D:=by simpa using h2
   conv=>whnf
   refine ⟨⟨by omega,by omega⟩,?_⟩
   try simp (disch:=omega) only [wrapi64,wrapu64,wrapu32,wrapu8,shr_u64_32,shr_u64_31,shl_u64_32,shl_i64_8,shr_i64_8,shr_u32_8,shr_u32_16,shr_u32_24,or_word',or_byte',toNat_cast,rowAdd_eq,Nat.zero_add,capSub_zero,toNat_0,toNat_1,Nat.sub_zero,sub1c,add1c,subc,addc,tdiv4,tmod4,cast_mul8,mul8c]
   conv=>whnf
   refine ⟨by show i < nl D; omega,?_⟩
   conv=>whnf
   refine ⟨(limb A i,limb D i,b),rfl,⟨hlA,hlD,hb⟩,?_⟩
   simp only [sub32S,← hd]
   conv=>whnf
   refine ⟨⟨by omega,by omega⟩,?_⟩
   try simp (disch:=omega) only [wrapi64,wrapu64,wrapu32,wrapu8,shr_u64_32,shr_u64_31,shl_u64_32,shl_i64_8,shr_i64_8,shr_u32_8,shr_u32_16,shr_u32_24,or_word',or_byte',toNat_cast,rowAdd_eq,Nat.zero_add,capSub_zero,toNat_0,toNat_1,Nat.sub_zero,sub1c,add1c,subc,addc,tdiv4,tmod4,cast_mul8,mul8c]
   conv=>whnf
   refine ⟨by show i < nl A; omega,?_⟩
   conv=>whnf
   try simp (disch:=omega) only [wrapi64,wrapu64,wrapu32,wrapu8,shr_u64_32,shr_u64_31,shl_u64_32,shl_i64_8,shr_i64_8,shr_u32_8,shr_u32_16,shr_u32_24,or_word',or_byte',toNat_cast,rowAdd_eq,Nat.zero_add,capSub_zero,toNat_0,toNat_1,Nat.sub_zero,sub1c,add1c,subc,addc,tdiv4,tmod4,cast_mul8,mul8c]
   rw [limbRow_set hdB]
   refine .inl ⟨_,?_,i+1,setLimb Y i d,if limb A i < limb D i+b then 1 else 0,(.keep (.keep (.sk 3 (.keep (.keep (.sk 6 (.keep (.keep (.keep (.sk 25 .nil rfl)))) rfl))) rfl))),rfl,rfl,?_⟩
   ·omega
   ·exact ⟨by omega,by split <;> omega,hst.1,hst.2⟩
  ·have h2:nl D≤i:=by
    have h2:¬ i < nl D:=by simpa using h2
    omega
   have h0:=limb_top (lt_nl D) h2
   rw [h0] at hd hst
   rw [Nat.zero_add] at hst
   conv=>whnf
   refine ⟨(limb A i,0,b),rfl,⟨hlA,(by show 0 < 4294967296; decide),hb⟩,?_⟩
   simp only [sub32S,← hd]
   conv=>whnf
   refine ⟨⟨by omega,by omega⟩,?_⟩
   try simp (disch:=omega) only [wrapi64,wrapu64,wrapu32,wrapu8,shr_u64_32,shr_u64_31,shl_u64_32,shl_i64_8,shr_i64_8,shr_u32_8,shr_u32_16,shr_u32_24,or_word',or_byte',toNat_cast,rowAdd_eq,Nat.zero_add,capSub_zero,toNat_0,toNat_1,Nat.sub_zero,sub1c,add1c,subc,addc,tdiv4,tmod4,cast_mul8,mul8c]
   conv=>whnf
   refine ⟨by show i < nl A; omega,?_⟩
   conv=>whnf
   try simp (disch:=omega) only [wrapi64,wrapu64,wrapu32,wrapu8,shr_u64_32,shr_u64_31,shl_u64_32,shl_i64_8,shr_i64_8,shr_u32_8,shr_u32_16,shr_u32_24,or_word',or_byte',toNat_cast,rowAdd_eq,Nat.zero_add,capSub_zero,toNat_0,toNat_1,Nat.sub_zero,sub1c,add1c,subc,addc,tdiv4,tmod4,cast_mul8,mul8c]
   rw [limbRow_set hdB]
   refine .inl ⟨_,?_,i+1,setLimb Y i d,if limb A i < b then 1 else 0,(.keep (.keep (.sk 3 (.keep (.keep (.sk 6 (.keep (.keep (.keep (.sk 25 .nil rfl)))) rfl))) rfl))),rfl,rfl,?_⟩
   ·omega
   ·exact ⟨by omega,by split <;> omega,hst.1,hst.2⟩
 ·have h1:i=nl A:=by
   have h1:¬ i < nl A:=by simpa using h1
   omega
  subst h1
  have hY2:Y=A - D∧b=0:=by
   rw [Nat.mod_eq_of_lt (lt_nl A),Nat.mod_eq_of_lt (Nat.lt_of_le_of_lt hp.2 (lt_nl A))] at he
   rcases Nat.eq_zero_or_pos b with h | h
   ·subst h; omega
   ·have:b=1:=by omega
    subst this
    omega
  conv=>whnf
  refine ⟨some (nl A,Y,nl A),[2],rfl,⟨hY,by omega⟩,?_⟩
  conv=>whnf
  refine ⟨BlkLe.flat_flat (fun h=>by cases h) (fun r hr=>rfl),?_⟩
  conv=>whnf
  refine ⟨_,rfl,?_⟩
  conv=>whnf
  refine ⟨2,?_⟩
  conv=>whnf
  rw [hY2.1]
  have hle:=nl_mono (show A - D≤A by omega)
  refine ⟨⟨rfl,⟨(fun h=>by cases h),rfl,hle,fun _ _=>rfl,fun r hr v hv=>allS_spec (l:=limbRow (A - D) r) rfl v hv⟩⟩,_,rfl,?_⟩
  exact .cap _ _ _ rfl
end Go.Proofs.YtppeponndkfbkaaGreat
/- Contracts of bigint: sum, product. -/
set_option maxRecDepth 20000
namespace Go.Proofs.YtppeponndkfbkaaGreat
open Go Go.Ae
theorem times_ok:QSnd Tryz.prog 140 timesS:=by
 refine qsnd_of Ecok Dok Tryz.func140 (enters_of Tryz.func140 (by kernel_rfl) rfl) ?_ ?_ ?_
 ·intro i b hb; simp [timesS,blk2] at hb; rcases hb with rfl | rfl <;> rfl
 ·intro i b hb; simp [timesS] at hb; rw [← hb]; rfl
 intro ⟨A,ca,D,cd⟩ hp
 have hp:nl A≤137438953472∧nl D≤137438953472:=hp
 conv=>whnf
 have e1:IntKind.i64.wrap (((nl A:Nat):Int)+((nl D:Nat):Int))=((nl A+nl D:Nat):Int):=by rw [wrapi64 (by omega) (by omega)]; omega
 simp only [e1]
 refine ⟨⟨by omega,by omega,by show ((nl A+nl D:Nat):Int)*((4:Nat):Int)≤_; omega⟩,?_⟩
 simp only [toNat_cast,limbRow_zero]
 conv=>whnf
 refine .inl ⟨fun mm tz hz=>∃ (i:Nat) (Y:Nat),Pat (some (.slice (some ⟨0,0,none⟩) (nl A) ca)::some (.slice (some ⟨1,0,none⟩) (nl D) cd)::nos 3 (some (.slice (some ⟨2,0,none⟩) (nl A+nl D) (nl A+nl D))::nos 11 (some (.slice (some ⟨0,0,none⟩) (nl A) ca)::some (.int .i64 (nl A))::some (.int .i64 i)::nos 47 []))) tz∧hz=[some (.flat false (nl A) 1 (limbRow A)),some (.flat false (nl D) 1 (limbRow D)),some (.flat true (nl A+nl D) 1 (limbRow Y))]∧nl A - i=mm∧(i≤nl A∧Y=A % B ^ i*D),.inl ⟨_,0,0,(.keep (.keep (.sk 3 (.keep (.sk 11 (.keep (.keep (.keep (.sk 47 .nil rfl)))) rfl)) rfl))),rfl,rfl,?_⟩,?_⟩
 ·exact ⟨Nat.zero_le _,by simp [Nat.mod_one]⟩
 rintro mm tms _ ⟨i,Y,hpat,rfl,rfl,⟨hi,hY⟩⟩
 obtain ⟨az,rfl⟩:∃ az:Nat→Value,tms=.slice (some ⟨0,0,none⟩) (nl A) ca::.slice (some ⟨1,0,none⟩) (nl D) cd::zs az 2 3 (.slice (some ⟨2,0,none⟩) (nl A+nl D) (nl A+nl D)::zs az 6 11 (.slice (some ⟨0,0,none⟩) (nl A) ca::.int .i64 (nl A)::.int .i64 i::zs az 20 47 [])):=pat_fill hpat
 clear hpat
 conv=>whnf
 refine br_intro (fun h1=>?_) (fun h1=>?_)
 ·have h1:i < nl A:=by simpa using h1
  have hYlt:Y < B ^ (i+nl D):=by
   rw [hY,Nat.pow_add]
   exact Nat.mul_lt_mul_of_lt_of_le (Nat.mod_lt _ (Bpos i)) (Nat.le_of_lt (lt_nl D)) (Bpos _)
  conv=>whnf
  refine ⟨⟨by omega,by omega⟩,?_⟩
  try simp (disch:=omega) only [wrapi64,wrapu64,wrapu32,wrapu8,shr_u64_32,shr_u64_31,shl_u64_32,shl_i64_8,shr_i64_8,shr_u32_8,shr_u32_16,shr_u32_24,or_word',or_byte',toNat_cast,rowAdd_eq,Nat.zero_add,capSub_zero,toNat_0,toNat_1,Nat.sub_zero,sub1c,add1c,subc,addc,tdiv4,tmod4,cast_mul8,mul8c]
  conv=>whnf
  refine ⟨by show i < nl A; omega,?_⟩
  conv=>whnf
  refine .inl ⟨fun mm tz hz=>∃ (k:Nat) (Z:Nat) (c:Nat),Pat (some (.slice (some ⟨0,0,none⟩) (nl A) ca)::some (.slice (some ⟨1,0,none⟩) (nl D) cd)::nos 3 (some (.slice (some ⟨2,0,none⟩) (nl A+nl D) (nl A+nl D))::some (.int .i64 i)::some (.int .u32 (limb A i))::some (.int .u64 c)::nos 8 (some (.slice (some ⟨0,0,none⟩) (nl A) ca)::some (.int .i64 (nl A))::some (.int .i64 i)::nos 4 (some (.slice (some ⟨1,0,none⟩) (nl D) cd)::some (.int .i64 (nl D))::some (.int .i64 k)::nos 40 [])))) tz∧hz=[some (.flat false (nl A) 1 (limbRow A)),some (.flat false (nl D) 1 (limbRow D)),some (.flat true (nl A+nl D) 1 (limbRow Z))]∧nl D - k=mm∧(k≤nl D∧c < B∧Z < B ^ (i+nl D)∧Z+c*B ^ (i+k)=Y+limb A i*(D % B ^ k)*B ^ i),.inl ⟨_,0,Y,0,(.keep (.keep (.sk 3 (.keep (.keep (.keep (.keep (.sk 8 (.keep (.keep (.keep (.sk 4 (.keep (.keep (.keep (.sk 40 .nil rfl)))) rfl)))) rfl))))) rfl))),rfl,rfl,?_⟩,?_⟩
  ·exact ⟨Nat.zero_le _,by decide,hYlt,by simp [Nat.mod_one]⟩
  rintro mm tms _ ⟨k,Z,c,hpat,rfl,rfl,⟨hk,hc,hZ,he⟩⟩
  obtain ⟨az,rfl⟩:∃ az:Nat→Value,tms=.slice (some ⟨0,0,none⟩) (nl A) ca::.slice (some ⟨1,0,none⟩) (nl D) cd::zs az 2 3 (.slice (some ⟨2,0,none⟩) (nl A+nl D) (nl A+nl D)::.int .i64 i::.int .u32 (limb A i)::.int .u64 c::zs az 9 8 (.slice (some ⟨0,0,none⟩) (nl A) ca::.int .i64 (nl A)::.int .i64 i::zs az 20 4 (.slice (some ⟨1,0,none⟩) (nl D) cd::.int .i64 (nl D)::.int .i64 k::zs az 27 40 []))):=pat_fill hpat
  clear hpat
  have hlA:=limb_lt A i
  have hlD:=limb_lt D k
  have hlZ:=limb_lt Z (i+k)
  conv=>whnf
  refine br_intro (fun h2=>?_) (fun h2=>?_)
  ·have h2:k < nl D:=by simpa using h2
   obtain ⟨t,ht⟩:∃ t,t=c+(limb A i*limb D k+limb Z (i+k)):=⟨_,rfl⟩
   have hst:=times_step he ht
   have hcar:=times_carry hc hlA hlD hlZ ht
   conv=>whnf
   refine ⟨⟨by omega,by omega⟩,?_⟩
   try simp (disch:=omega) only [wrapi64,wrapu64,wrapu32,wrapu8,shr_u64_32,shr_u64_31,shl_u64_32,shl_i64_8,shr_i64_8,shr_u32_8,shr_u32_16,shr_u32_24,or_word',or_byte',toNat_cast,rowAdd_eq,Nat.zero_add,capSub_zero,toNat_0,toNat_1,Nat.sub_zero,sub1c,add1c,subc,addc,tdiv4,tmod4,cast_mul8,mul8c]
   conv=>whnf
   refine ⟨by show k < nl D; omega,?_⟩
   conv=>whnf
   have e2:IntKind.i64.wrap (((i:Nat):Int)+((k:Nat):Int))=((i+k:Nat):Int):=by rw [wrapi64 (by omega) (by omega)]; omega
   have hv:=times_val hc hlA hlD hlZ ht
   have htB:=Nat.mod_lt t (show 0 < B by decide)
   simp only [e2,toNat_cast,rowAdd_eq,Nat.zero_add]
   refine ⟨⟨by omega,by omega⟩,?_⟩
   conv=>whnf
   refine ⟨by show i+k < nl A+nl D; omega,?_⟩
   conv=>whnf
   simp only [hv,e2,u32_mod]
   refine ⟨⟨by omega,by omega⟩,?_⟩
   simp only [toNat_cast,rowAdd_eq,Nat.zero_add]
   conv=>whnf
   refine ⟨by show i+k < nl A+nl D; omega,?_⟩
   conv=>whnf
   simp only [shr_u64_32,div_B]
   rw [limbRow_set htB]
   have e3:IntKind.i64.wrap (((k:Nat):Int)+1)=((k+1:Nat):Int):=by rw [wrapi64 (by omega) (by omega)]; rfl
   simp only [e3]
   refine .inl ⟨_,?_,k+1,setLimb Z (i+k) (t % B),t / B,(.keep (.keep (.sk 3 (.keep (.keep (.keep (.keep (.sk 8 (.keep (.keep (.keep (.sk 4 (.keep (.keep (.keep (.sk 40 .nil rfl)))) rfl)))) rfl))))) rfl))),rfl,rfl,?_⟩
   ·omega
   ·exact ⟨by omega,hcar.1,setLimb_lt hZ (by omega) htB,hst⟩
  ·have h2:k=nl D:=by
    have h2:¬ k < nl D:=by simpa using h2
    omega
   subst h2
   have hrow:=times_row hY (lt_nl D) hZ he
   have e2:IntKind.i64.wrap (((i:Nat):Int)+((nl D:Nat):Int))=((i+nl D:Nat):Int):=by rw [wrapi64 (by omega) (by omega)]; omega
   conv=>whnf
   simp only [e2,u32_mod,Nat.mod_eq_of_lt hc]
   refine ⟨⟨by omega,by omega⟩,?_⟩
   simp only [toNat_cast,rowAdd_eq,Nat.zero_add]
   conv=>whnf
   refine ⟨by show i+nl D < nl A+nl D; omega,?_⟩
   conv=>whnf
   rw [limbRow_set hc]
   try simp (disch:=omega) only [wrapi64,wrapu64,wrapu32,wrapu8,shr_u64_32,shr_u64_31,shl_u64_32,shl_i64_8,shr_i64_8,shr_u32_8,shr_u32_16,shr_u32_24,or_word',or_byte',toNat_cast,rowAdd_eq,Nat.zero_add,capSub_zero,toNat_0,toNat_1,Nat.sub_zero,sub1c,add1c,subc,addc,tdiv4,tmod4,cast_mul8,mul8c]
   skip
   refine .inl ⟨_,?_,i+1,setLimb Z (i+nl D) c,(.keep (.keep (.sk 3 (.keep (.sk 11 (.keep (.keep (.keep (.sk 47 .nil rfl)))) rfl)) rfl))),rfl,rfl,?_⟩
   ·omega
   ·exact ⟨by omega,hrow⟩
 ·have h1:i=nl A:=by
   have h1:¬ i < nl A:=by simpa using h1
   omega
  subst h1
  rw [Nat.mod_eq_of_lt (lt_nl A)] at hY
  have hlt:Y < B ^ (nl A+nl D):=by
   rw [hY,Nat.pow_add]
   exact Nat.mul_lt_mul_of_lt_of_le (lt_nl A) (Nat.le_of_lt (lt_nl D)) (Bpos _)
  conv=>whnf
  refine ⟨some (nl A+nl D,Y,nl A+nl D),[2],rfl,⟨hlt,by omega⟩,?_⟩
  conv=>whnf
  refine ⟨BlkLe.flat_flat (fun h=>by cases h) (fun r hr=>rfl),?_⟩
  conv=>whnf
  refine ⟨_,rfl,?_⟩
  conv=>whnf
  refine ⟨2,?_⟩
  conv=>whnf
  have hle:=nl_le hlt
  subst hY
  refine ⟨⟨rfl,⟨(fun h=>by cases h),rfl,hle,fun _ _=>rfl,fun r hr v hv=>allS_spec (l:=limbRow (A*D) r) rfl v hv⟩⟩,_,rfl,?_⟩
  exact .cap _ _ _ rfl
end Go.Proofs.YtppeponndkfbkaaGreat
/- Contracts of bigint: the sum. -/
set_option maxRecDepth 20000
namespace Go.Proofs.YtppeponndkfbkaaGreat
open Go Go.Ae
theorem plus_ok:QSnd Tryz.prog 158 plusS:=by
 refine qsnd_of Ecok Dok Tryz.func158 (enters_of Tryz.func158 (by kernel_rfl) rfl) ?_ ?_ ?_
 ·intro i b hb; simp [plusS,blk2] at hb; rcases hb with rfl | rfl <;> rfl
 ·intro i b hb; simp [plusS] at hb; rw [← hb]; rfl
 intro ⟨A,ca,D,cd⟩ hp
 have hp:nl A≤137438953472∧nl D≤137438953472:=hp
 conv=>whnf
 refine br_intro (fun h0=>?_) (fun h0=>?_)
 ·have h0:(nl A < nl D):=by simpa using h0
  have hxy:nl A≤nl D:=by omega
  have eS:A+D=(D+A):=by omega
  conv=>whnf
  have e1:IntKind.i64.wrap (((nl D:Nat):Int)+1)=((nl D+1:Nat):Int):=by rw [wrapi64 (by omega) (by omega)]; rfl
  simp only [e1]
  have hcap:decide (nl D+1=capU)=false:=decide_eq_false (by unfold capU; omega)
  refine ⟨⟨by omega,by omega,by show ((nl D+1:Nat):Int)*((4:Nat):Int)≤_; omega⟩,?_⟩
  simp only [toNat_cast,toNat_0]
  conv=>whnf
  refine .inl ⟨fun mm tz hz=>∃ (i:Nat) (Z:Nat) (c:Nat) (g:Nat→List Value),Pat (some (.slice (some ⟨1,0,none⟩) (nl D) cd)::some (.slice (some ⟨0,0,none⟩) (nl A) ca)::nos 3 (some (.slice (some ⟨2,0,none⟩) i (nl D+1))::some (.int .u64 c)::nos 13 (some (.slice (some ⟨1,0,none⟩) (nl D) cd)::some (.int .i64 (nl D))::some (.int .i64 i)::nos 33 []))) tz∧hz=[some (.flat false (nl A) 1 (limbRow A)),some (.flat false (nl D) 1 (limbRow D)),some (.flat true i 1 g)]∧nl D - i=mm∧(i≤nl D∧c≤1∧Z < B ^ i∧Z+c*B ^ i=D % B ^ i+A % B ^ i∧∀ r,r < i→g r=limbRow Z r),.inl ⟨_,0,0,0,_,(.keep (.keep (.sk 3 (.keep (.keep (.sk 13 (.keep (.keep (.keep (.sk 33 .nil rfl)))) rfl))) rfl))),rfl,rfl,?_⟩,?_⟩
  ·exact ⟨Nat.zero_le _,by decide,by simp,by simp [Nat.mod_one],fun r hr=>absurd hr (by omega)⟩
  rintro mm tms _ ⟨i,Z,c,g,hpat,rfl,rfl,⟨hi,hc,hZ,he,hg⟩⟩
  obtain ⟨az,rfl⟩:∃ az:Nat→Value,tms=.slice (some ⟨1,0,none⟩) (nl D) cd::.slice (some ⟨0,0,none⟩) (nl A) ca::zs az 2 3 (.slice (some ⟨2,0,none⟩) i (nl D+1)::.int .u64 c::zs az 7 13 (.slice (some ⟨1,0,none⟩) (nl D) cd::.int .i64 (nl D)::.int .i64 i::zs az 23 33 [])):=pat_fill hpat
  clear hpat
  conv=>whnf
  refine br_intro (fun h1=>?_) (fun h1=>?_)
  ·have h1:i < nl D:=by simpa using h1
   conv=>whnf
   refine ⟨⟨by omega,by omega⟩,?_⟩
   try simp (disch:=omega) only [wrapi64,wrapu64,wrapu32,wrapu8,shr_u64_32,shr_u64_31,shl_u64_32,shl_i64_8,shr_i64_8,shr_u32_8,shr_u32_16,shr_u32_24,or_word',or_byte',toNat_cast,rowAdd_eq,Nat.zero_add,capSub_zero,toNat_0,toNat_1,Nat.sub_zero,sub1c,add1c,subc,addc,tdiv4,tmod4,cast_mul8,mul8c]
   conv=>whnf
   refine ⟨by show i < nl D; omega,?_⟩
   conv=>whnf
   have hlX:limb D i < 4294967296:=limb_lt D i
   have hlY:limb A i < 4294967296:=limb_lt A i
   obtain ⟨t,ht⟩:∃ t,t=c+limb D i+limb A i:=⟨_,rfl⟩
   have hst:=plus_step he ht
   have htB:t % B < B:=Nat.mod_lt t (show 0 < B by decide)
   have htC:t / B≤1:=by
    have e:B=4294967296:=rfl
    rw [e]; omega
   have ev1:=u64_add2 (a:=c) (b:=limb D i) (by omega) (by omega)
   have ev2:=u64_add2 (a:=c+limb D i) (b:=limb A i) (by omega) (by omega)
   rw [← ht] at ev2
   have e3:IntKind.i64.wrap (((i:Nat):Int)+1)=((i+1:Nat):Int):=by rw [wrapi64 (by omega) (by omega)]; rfl
   have hrow:=app_row hZ htB hg
   simp only [ev1]
   refine br_intro (fun h2=>?_) (fun h2=>?_)
   ·have h2:i < nl A:=by simpa using h2
    conv=>whnf
    refine ⟨⟨by omega,by omega⟩,?_⟩
    try simp (disch:=omega) only [wrapi64,wrapu64,wrapu32,wrapu8,shr_u64_32,shr_u64_31,shl_u64_32,shl_i64_8,shr_i64_8,shr_u32_8,shr_u32_16,shr_u32_24,or_word',or_byte',toNat_cast,rowAdd_eq,Nat.zero_add,capSub_zero,toNat_0,toNat_1,Nat.sub_zero,sub1c,add1c,subc,addc,tdiv4,tmod4,cast_mul8,mul8c]
    conv=>whnf
    refine ⟨by show i < nl A; omega,?_⟩
    conv=>whnf
    simp only [ev2,u32_mod]
    rw [hcap]
    conv=>whnf
    refine br_yes ?_ ?_
    ·rw [Nat.ble_eq]; show i+1≤nl D+1; omega
    refine ⟨by show 0+i=i; omega,?_⟩
    conv=>whnf
    simp only [shr_u64_32,div_B,e3]
    refine .inr ⟨[0,1,2],[0,1,5,6,20,21,22],?_⟩
    conv=>whnf
    intro _
    conv=>whnf
    refine ⟨_,?_,i+1,Z+t % B*B ^ i,t / B,_,(.keep (.keep (.sk 3 (.keep (.keep (.sk 13 (.keep (.keep (.keep (.sk 33 .nil rfl)))) rfl))) rfl))),rfl,rfl,?_⟩
    ·omega
    ·exact ⟨by omega,htC,add_new_lt hZ htB,hst,hrow⟩
   ·have h2:nl A≤i:=by
     have h2:¬ i < nl A:=by simpa using h2
     omega
    have h0:=limb_top (lt_nl A) h2
    have e4:c+limb D i=t:=by omega
    conv=>whnf
    simp only [e4,u32_mod]
    rw [hcap]
    conv=>whnf
    refine br_yes ?_ ?_
    ·rw [Nat.ble_eq]; show i+1≤nl D+1; omega
    refine ⟨by show 0+i=i; omega,?_⟩
    conv=>whnf
    simp only [shr_u64_32,div_B,e3]
    refine .inr ⟨[0,1,2],[0,1,5,6,20,21,22],?_⟩
    conv=>whnf
    intro _
    conv=>whnf
    refine ⟨_,?_,i+1,Z+t % B*B ^ i,t / B,_,(.keep (.keep (.sk 3 (.keep (.keep (.sk 13 (.keep (.keep (.keep (.sk 33 .nil rfl)))) rfl))) rfl))),rfl,rfl,?_⟩
    ·omega
    ·exact ⟨by omega,htC,add_new_lt hZ htB,hst,hrow⟩
  ·have h1:i=nl D:=by
    have h1:¬ i < nl D:=by simpa using h1
    omega
   subst h1
   rw [Nat.mod_eq_of_lt (lt_nl D),Nat.mod_eq_of_lt (Nat.lt_of_lt_of_le (lt_nl A) (Nat.pow_le_pow_right (by decide) hxy))] at he
   have hcB:c < B:=by have e:B=4294967296:=rfl; omega
   have hrow:=app_row hZ hcB hg
   have hlt:=add_new_lt hZ hcB
   rw [he] at hlt hrow
   conv=>whnf
   simp only [u32_mod,Nat.mod_eq_of_lt hcB]
   rw [hcap]
   conv=>whnf
   refine br_yes ?_ ?_
   ·rw [Nat.ble_eq]; show nl D+1≤nl D+1; omega
   refine ⟨by show 0+nl D=nl D; omega,?_⟩
   conv=>whnf
   refine ⟨some (nl D+1,D+A,nl D+1),[2],rfl,⟨hlt,by omega⟩,?_⟩
   conv=>whnf
   refine ⟨⟨(fun h=>by cases h),rfl,Nat.le_refl _,fun r hr=>(hrow r hr).symm,fun r hr v hv=>allS_spec (l:=limbRow (D+A) r) rfl v hv⟩,?_⟩
   conv=>whnf
   refine ⟨_,rfl,?_⟩
   conv=>whnf
   refine ⟨2,?_⟩
   conv=>whnf
   have hle:=nl_le hlt
   show (_∧BlkLe (newB (A+D)) _)∧∃ v',renV _ 3 (newN 2 (A+D))=some v'∧_
   rw [eS]
   refine ⟨⟨rfl,⟨(fun h=>by cases h),rfl,hle,fun r hr=>(hrow r (Nat.lt_of_lt_of_le hr hle)).symm,fun r hr v hv=>allS_spec (l:=limbRow (D+A) r) rfl v hv⟩⟩,_,rfl,?_⟩
   exact .cap _ _ _ rfl
 ·have h0:(¬ nl A < nl D):=by simpa using h0
  have hxy:nl D≤nl A:=by omega
  have eS:A+D=(A+D):=by omega
  conv=>whnf
  have e1:IntKind.i64.wrap (((nl A:Nat):Int)+1)=((nl A+1:Nat):Int):=by rw [wrapi64 (by omega) (by omega)]; rfl
  simp only [e1]
  have hcap:decide (nl A+1=capU)=false:=decide_eq_false (by unfold capU; omega)
  refine ⟨⟨by omega,by omega,by show ((nl A+1:Nat):Int)*((4:Nat):Int)≤_; omega⟩,?_⟩
  simp only [toNat_cast,toNat_0]
  conv=>whnf
  refine .inl ⟨fun mm tz hz=>∃ (i:Nat) (Z:Nat) (c:Nat) (g:Nat→List Value),Pat (some (.slice (some ⟨0,0,none⟩) (nl A) ca)::some (.slice (some ⟨1,0,none⟩) (nl D) cd)::nos 3 (some (.slice (some ⟨2,0,none⟩) i (nl A+1))::some (.int .u64 c)::nos 13 (some (.slice (some ⟨0,0,none⟩) (nl A) ca)::some (.int .i64 (nl A))::some (.int .i64 i)::nos 33 []))) tz∧hz=[some (.flat false (nl A) 1 (limbRow A)),some (.flat false (nl D) 1 (limbRow D)),some (.flat true i 1 g)]∧nl A - i=mm∧(i≤nl A∧c≤1∧Z < B ^ i∧Z+c*B ^ i=A % B ^ i+D % B ^ i∧∀ r,r < i→g r=limbRow Z r),.inl ⟨_,0,0,0,_,(.keep (.keep (.sk 3 (.keep (.keep (.sk 13 (.keep (.keep (.keep (.sk 33 .nil rfl)))) rfl))) rfl))),rfl,rfl,?_⟩,?_⟩
  ·exact ⟨Nat.zero_le _,by decide,by simp,by simp [Nat.mod_one],fun r hr=>absurd hr (by omega)⟩
  rintro mm tms _ ⟨i,Z,c,g,hpat,rfl,rfl,⟨hi,hc,hZ,he,hg⟩⟩
  obtain ⟨az,rfl⟩:∃ az:Nat→Value,tms=.slice (some ⟨0,0,none⟩) (nl A) ca::.slice (some ⟨1,0,none⟩) (nl D) cd::zs az 2 3 (.slice (some ⟨2,0,none⟩) i (nl A+1)::.int .u64 c::zs az 7 13 (.slice (some ⟨0,0,none⟩) (nl A) ca::.int .i64 (nl A)::.int .i64 i::zs az 23 33 [])):=pat_fill hpat
  clear hpat
  conv=>whnf
  refine br_intro (fun h1=>?_) (fun h1=>?_)
  ·have h1:i < nl A:=by simpa using h1
   conv=>whnf
   refine ⟨⟨by omega,by omega⟩,?_⟩
   try simp (disch:=omega) only [wrapi64,wrapu64,wrapu32,wrapu8,shr_u64_32,shr_u64_31,shl_u64_32,shl_i64_8,shr_i64_8,shr_u32_8,shr_u32_16,shr_u32_24,or_word',or_byte',toNat_cast,rowAdd_eq,Nat.zero_add,capSub_zero,toNat_0,toNat_1,Nat.sub_zero,sub1c,add1c,subc,addc,tdiv4,tmod4,cast_mul8,mul8c]
   conv=>whnf
   refine ⟨by show i < nl A; omega,?_⟩
   conv=>whnf
   have hlX:limb A i < 4294967296:=limb_lt A i
   have hlY:limb D i < 4294967296:=limb_lt D i
   obtain ⟨t,ht⟩:∃ t,t=c+limb A i+limb D i:=⟨_,rfl⟩
   have hst:=plus_step he ht
   have htB:t % B < B:=Nat.mod_lt t (show 0 < B by decide)
   have htC:t / B≤1:=by
    have e:B=4294967296:=rfl
    rw [e]; omega
   have ev1:=u64_add2 (a:=c) (b:=limb A i) (by omega) (by omega)
   have ev2:=u64_add2 (a:=c+limb A i) (b:=limb D i) (by omega) (by omega)
   rw [← ht] at ev2
   have e3:IntKind.i64.wrap (((i:Nat):Int)+1)=((i+1:Nat):Int):=by rw [wrapi64 (by omega) (by omega)]; rfl
   have hrow:=app_row hZ htB hg
   simp only [ev1]
   refine br_intro (fun h2=>?_) (fun h2=>?_)
   ·have h2:i < nl D:=by simpa using h2
    conv=>whnf
    refine ⟨⟨by omega,by omega⟩,?_⟩
    try simp (disch:=omega) only [wrapi64,wrapu64,wrapu32,wrapu8,shr_u64_32,shr_u64_31,shl_u64_32,shl_i64_8,shr_i64_8,shr_u32_8,shr_u32_16,shr_u32_24,or_word',or_byte',toNat_cast,rowAdd_eq,Nat.zero_add,capSub_zero,toNat_0,toNat_1,Nat.sub_zero,sub1c,add1c,subc,addc,tdiv4,tmod4,cast_mul8,mul8c]
    conv=>whnf
    refine ⟨by show i < nl D; omega,?_⟩
    conv=>whnf
    simp only [ev2,u32_mod]
    rw [hcap]
    conv=>whnf
    refine br_yes ?_ ?_
    ·rw [Nat.ble_eq]; show i+1≤nl A+1; omega
    refine ⟨by show 0+i=i; omega,?_⟩
    conv=>whnf
    simp only [shr_u64_32,div_B,e3]
    refine .inr ⟨[0,1,2],[0,1,5,6,20,21,22],?_⟩
    conv=>whnf
    intro _
    conv=>whnf
    refine ⟨_,?_,i+1,Z+t % B*B ^ i,t / B,_,(.keep (.keep (.sk 3 (.keep (.keep (.sk 13 (.keep (.keep (.keep (.sk 33 .nil rfl)))) rfl))) rfl))),rfl,rfl,?_⟩
    ·omega
    ·exact ⟨by omega,htC,add_new_lt hZ htB,hst,hrow⟩
   ·have h2:nl D≤i:=by
     have h2:¬ i < nl D:=by simpa using h2
     omega
    have h0:=limb_top (lt_nl D) h2
    have e4:c+limb A i=t:=by omega
    conv=>whnf
    simp only [e4,u32_mod]
    rw [hcap]
    conv=>whnf
    refine br_yes ?_ ?_
    ·rw [Nat.ble_eq]; show i+1≤nl A+1; omega
    refine ⟨by show 0+i=i; omega,?_⟩
    conv=>whnf
    simp only [shr_u64_32,div_B,e3]
    refine .inr ⟨[0,1,2],[0,1,5,6,20,21,22],?_⟩
    conv=>whnf
    intro _
    conv=>whnf
    refine ⟨_,?_,i+1,Z+t % B*B ^ i,t / B,_,(.keep (.keep (.sk 3 (.keep (.keep (.sk 13 (.keep (.keep (.keep (.sk 33 .nil rfl)))) rfl))) rfl))),rfl,rfl,?_⟩
    ·omega
    ·exact ⟨by omega,htC,add_new_lt hZ htB,hst,hrow⟩
  ·have h1:i=nl A:=by
    have h1:¬ i < nl A:=by simpa using h1
    omega
   subst h1
   rw [Nat.mod_eq_of_lt (lt_nl A),Nat.mod_eq_of_lt (Nat.lt_of_lt_of_le (lt_nl D) (Nat.pow_le_pow_right (by decide) hxy))] at he
   have hcB:c < B:=by have e:B=4294967296:=rfl; omega
   have hrow:=app_row hZ hcB hg
   have hlt:=add_new_lt hZ hcB
   rw [he] at hlt hrow
   conv=>whnf
   simp only [u32_mod,Nat.mod_eq_of_lt hcB]
   rw [hcap]
   conv=>whnf
   refine br_yes ?_ ?_
   ·rw [Nat.ble_eq]; show nl A+1≤nl A+1; omega
   refine ⟨by show 0+nl A=nl A; omega,?_⟩
   conv=>whnf
   refine ⟨some (nl A+1,A+D,nl A+1),[2],rfl,⟨hlt,by omega⟩,?_⟩
   conv=>whnf
   refine ⟨⟨(fun h=>by cases h),rfl,Nat.le_refl _,fun r hr=>(hrow r hr).symm,fun r hr v hv=>allS_spec (l:=limbRow (A+D) r) rfl v hv⟩,?_⟩
   conv=>whnf
   refine ⟨_,rfl,?_⟩
   conv=>whnf
   refine ⟨2,?_⟩
   conv=>whnf
   have hle:=nl_le hlt
   show (_∧BlkLe (newB (A+D)) _)∧∃ v',renV _ 3 (newN 2 (A+D))=some v'∧_
   rw [eS]
   refine ⟨⟨rfl,⟨(fun h=>by cases h),rfl,hle,fun r hr=>(hrow r (Nat.lt_of_lt_of_le hr hle)).symm,fun r hr v hv=>allS_spec (l:=limbRow (A+D) r) rfl v hv⟩⟩,_,rfl,?_⟩
   exact .cap _ _ _ rfl
end Go.Proofs.YtppeponndkfbkaaGreat
/- Contracts of bigint: division by one limb, shifts. -/
set_option maxRecDepth 20000
namespace Go.Proofs.YtppeponndkfbkaaGreat
open Go Go.Ae
def Ef:Env:=En [(145,.q trimS),(171,.p div32S)]
theorem Efok:EnvOk Tryz.prog Ef:=Enk ⟨trim_ok,div32_ok,trivial⟩ trivial
theorem short_ok:QSnd Tryz.prog 165 shortS:=by
 refine qsnd_of Efok Dok Tryz.func165 (enters_of Tryz.func165 (by kernel_rfl) rfl) ?_ ?_ ?_
 ·intro i b hb; simp [shortS,newB] at hb; rcases hb with rfl | rfl <;> rfl
 ·intro i b hb; simp [shortS] at hb; rw [← hb]; rfl
 intro ⟨A,ca,d⟩ hp
 have hp:nl A≤137438953472∧0 < d∧d < 4294967296:=hp
 conv=>whnf
 refine ⟨⟨by omega,by omega,by show ((nl A:Nat):Int)*((4:Nat):Int)≤_; omega⟩,?_⟩
 simp only [toNat_cast,limbRow_zero]
 conv=>whnf
 refine .inl ⟨fun mm tz hz=>∃ (i:Nat) (rem:Nat) (Y:Nat),Pat (some (.slice (some ⟨0,0,none⟩) (nl A) ca)::some (.int .u32 d)::nos 4 (some (.slice (some ⟨1,0,none⟩) (nl A) (nl A))::some (.int .u32 rem)::some (.int .i64 (IntKind.i64.wrap ((i:Int) - 1)))::nos 26 [])) tz∧hz=[some (.flat false (nl A) 1 (limbRow A)),some (.flat true (nl A) 1 (limbRow Y))]∧i=mm∧(i≤nl A∧rem=A / B ^ i % d∧Y=A / B ^ i / d*B ^ i),.inl ⟨_,nl A,0,0,(.keep (.keep (.sk 4 (.keep (.keep (.keep (.sk 26 .nil rfl)))) rfl))),rfl,rfl,?_⟩,?_⟩
 ·have h:=Nat.div_eq_of_lt (lt_nl A)
  exact ⟨Nat.le_refl _,by rw [h]; simp,by rw [h]; simp⟩
 rintro mm tms _ ⟨i,rem,Y,hpat,rfl,rfl,⟨hi,hr,hY⟩⟩
 obtain ⟨az,rfl⟩:∃ az:Nat→Value,tms=.slice (some ⟨0,0,none⟩) (nl A) ca::.int .u32 d::zs az 2 4 (.slice (some ⟨1,0,none⟩) (nl A) (nl A)::.int .u32 rem::.int .i64 (IntKind.i64.wrap ((i:Int) - 1))::zs az 9 26 []):=pat_fill hpat
 clear hpat
 conv=>whnf
 refine br_intro (fun h1=>?_) (fun h1=>?_)
 ·have h1:0 < i:=by
   rcases Nat.eq_zero_or_pos i with h | h
   ·subst h; revert h1; decide
   ·exact h
  obtain ⟨i,rfl⟩:∃ i',i=i'+1:=⟨i - 1,by omega⟩
  have ei:IntKind.i64.wrap (((i+1:Nat):Int) - 1)=((i:Nat):Int):=by rw [wrapi64 (by omega) (by omega)]; omega
  simp only [ei]
  have hl:=limb_lt A i
  have hrd:rem < d:=by rw [hr]; exact Nat.mod_lt _ hp.2.1
  obtain ⟨t,ht⟩:∃ t,t=rem*B+limb A i:=⟨_,rfl⟩
  have ht':=ht
  rw [hr] at ht'
  have hst:=short_step hp.2.1 ht'
  have hse:=short_set hp.2.1 ht'
  have hlt:=short_lt hp.2.1 ht'
  conv=>whnf
  refine ⟨⟨by omega,by omega⟩,?_⟩
  try simp (disch:=omega) only [wrapi64,wrapu64,wrapu32,wrapu8,shr_u64_32,shr_u64_31,shl_u64_32,shl_i64_8,shr_i64_8,shr_u32_8,shr_u32_16,shr_u32_24,or_word',or_byte',toNat_cast,rowAdd_eq,Nat.zero_add,capSub_zero,toNat_0,toNat_1,Nat.sub_zero,sub1c,add1c,subc,addc,tdiv4,tmod4,cast_mul8,mul8c]
  conv=>whnf
  refine ⟨by show i < nl A; omega,?_⟩
  conv=>whnf
  refine ⟨(rem,limb A i,d),rfl,⟨hrd,hl,hp.2.2⟩,?_⟩
  have ht2:rem*4294967296+limb A i=t:=ht.symm
  simp only [div32S,ht2]
  conv=>whnf
  refine ⟨⟨by omega,by omega⟩,?_⟩
  try simp (disch:=omega) only [wrapi64,wrapu64,wrapu32,wrapu8,shr_u64_32,shr_u64_31,shl_u64_32,shl_i64_8,shr_i64_8,shr_u32_8,shr_u32_16,shr_u32_24,or_word',or_byte',toNat_cast,rowAdd_eq,Nat.zero_add,capSub_zero,toNat_0,toNat_1,Nat.sub_zero,sub1c,add1c,subc,addc,tdiv4,tmod4,cast_mul8,mul8c]
  conv=>whnf
  refine ⟨by show i < nl A; omega,?_⟩
  conv=>whnf
  rw [limbRow_set hlt]
  refine .inl ⟨_,?_,i,t % d,setLimb Y i (t / d),(.keep (.keep (.sk 4 (.keep (.keep (.keep (.sk 26 .nil rfl)))) rfl))),rfl,rfl,?_⟩
  ·omega
  ·exact ⟨by omega,hst.1.symm,by rw [hY]; exact hse⟩
 ·have h1:i=0:=by
   rcases Nat.eq_zero_or_pos i with h | h
   ·exact h
   ·have e:IntKind.i64.wrap ((i:Int) - 1)=((i - 1:Nat):Int):=by rw [wrapi64 (by omega) (by omega)]; omega
    rw [e] at h1
    exact absurd h1 (by simp)
  subst h1
  rw [Nat.pow_zero,Nat.div_one] at hr hY
  rw [Nat.mul_one] at hY
  subst hr hY
  have hlt:A / d < B ^ nl A:=Nat.lt_of_le_of_lt (Nat.div_le_self _ _) (lt_nl A)
  have hle:=nl_le hlt
  conv=>whnf
  refine ⟨some (nl A,A / d,nl A),[1],rfl,⟨hlt,by omega⟩,?_⟩
  conv=>whnf
  refine ⟨BlkLe.flat_flat (fun h=>by cases h) (fun r hr=>rfl),?_⟩
  conv=>whnf
  refine ⟨_,rfl,?_⟩
  conv=>whnf
  refine ⟨1,?_⟩
  conv=>whnf
  refine ⟨⟨rfl,⟨(fun h=>⟨rfl,rfl⟩),rfl,Nat.le_refl _,fun _ _=>rfl,fun r hr v hv=>allS_spec (l:=limbRow (A / d) r) rfl v hv⟩⟩,_,rfl,?_⟩
  exact .two (.cap _ _ _ rfl) (.refl _)
theorem shift_ok:QSnd Tryz.prog 167 shiftS:=by
 refine qsnd_of Efok Dok Tryz.func167 (enters_of Tryz.func167 (by kernel_rfl) rfl) ?_ ?_ ?_
 ·intro i b hb; simp [shiftS,newB] at hb; rcases hb with rfl | rfl <;> rfl
 ·intro i b hb; simp [shiftS] at hb; rw [← hb]; rfl
 intro ⟨A,ca,s⟩ hp
 have hp:nl A≤137438953472∧s≤31:=hp
 conv=>whnf
 have e1:IntKind.i64.wrap (((nl A:Nat):Int)+1)=((nl A+1:Nat):Int):=by rw [wrapi64 (by omega) (by omega)]; rfl
 simp only [e1]
 refine ⟨⟨by omega,by omega,by show ((nl A+1:Nat):Int)*((4:Nat):Int)≤_; omega⟩,?_⟩
 simp only [toNat_cast,limbRow_zero]
 conv=>whnf
 refine .inl ⟨fun mm tz hz=>∃ (i:Nat) (Y:Nat),Pat (some (.slice (some ⟨0,0,none⟩) (nl A) ca)::some (.int .i64 s)::nos 3 (some (.slice (some ⟨1,0,none⟩) (nl A+1) (nl A+1))::nos 7 (some (.slice (some ⟨0,0,none⟩) (nl A) ca)::some (.int .i64 (nl A))::some (.int .i64 i)::nos 25 []))) tz∧hz=[some (.flat false (nl A) 1 (limbRow A)),some (.flat true (nl A+1) 1 (limbRow Y))]∧nl A - i=mm∧(i≤nl A∧Y=A % B ^ i*2 ^ s),.inl ⟨_,0,0,(.keep (.keep (.sk 3 (.keep (.sk 7 (.keep (.keep (.keep (.sk 25 .nil rfl)))) rfl)) rfl))),rfl,rfl,?_⟩,?_⟩
 ·exact ⟨Nat.zero_le _,by simp [Nat.mod_one]⟩
 rintro mm tms _ ⟨i,Y,hpat,rfl,rfl,⟨hi,hY⟩⟩
 obtain ⟨az,rfl⟩:∃ az:Nat→Value,tms=.slice (some ⟨0,0,none⟩) (nl A) ca::.int .i64 s::zs az 2 3 (.slice (some ⟨1,0,none⟩) (nl A+1) (nl A+1)::zs az 6 7 (.slice (some ⟨0,0,none⟩) (nl A) ca::.int .i64 (nl A)::.int .i64 i::zs az 16 25 [])):=pat_fill hpat
 clear hpat
 conv=>whnf
 refine br_intro (fun h1=>?_) (fun h1=>?_)
 ·have h1:i < nl A:=by simpa using h1
  have hl:=limb_lt A i
  have hu:limb Y i < 2 ^ s:=by rw [hY]; exact shift_limb
  have hor:=or_u32 (l:=limb A i) hp.2 hu
  have horl:=or_lt (l:=limb A i) hp.2 hu
  have hst:=shift_step (A:=A) (i:=i) hp.2
  rw [← hY] at hst
  have h2:=two_le_B hp.2
  have hvB:limb A i*2 ^ s / B < B:=by
   refine (Nat.div_lt_iff_lt_mul (by decide)).2 ?_
   exact Nat.mul_lt_mul_of_lt_of_le hl (by show _≤4294967296; omega) (by decide)
  conv=>whnf
  refine ⟨⟨by omega,by omega⟩,?_⟩
  try simp (disch:=omega) only [wrapi64,wrapu64,wrapu32,wrapu8,shr_u64_32,shr_u64_31,shl_u64_32,shl_i64_8,shr_i64_8,shr_u32_8,shr_u32_16,shr_u32_24,or_word',or_byte',toNat_cast,rowAdd_eq,Nat.zero_add,capSub_zero,toNat_0,toNat_1,Nat.sub_zero,sub1c,add1c,subc,addc,tdiv4,tmod4,cast_mul8,mul8c]
  conv=>whnf
  refine ⟨by show i < nl A; omega,?_⟩
  conv=>whnf
  have hl64:IntKind.u64.wrap ((limb A i:Nat):Int)=((limb A i:Nat):Int):=wrapu64 (by omega) (by have:B=4294967296:=rfl; omega)
  have hv:=shl_u64 hp.2 hl
  have hvm:limb A i*2 ^ s / B % B=limb A i*2 ^ s / B:=Nat.mod_eq_of_lt hvB
  have e3:IntKind.i64.wrap (((i:Nat):Int)+1)=((i+1:Nat):Int):=by rw [wrapi64 (by omega) (by omega)]; rfl
  simp only [toNat_cast,hl64,hv]
  refine ⟨⟨by omega,by omega⟩,?_⟩
  simp only [toNat_cast,rowAdd_eq,Nat.zero_add]
  conv=>whnf
  refine ⟨by show i < nl A+1; omega,?_⟩
  conv=>whnf
  simp only [u32_mod,hor,e3,shr_u64_32,div_B,hvm]
  refine ⟨⟨by omega,by omega⟩,?_⟩
  simp only [toNat_cast,rowAdd_eq,Nat.zero_add]
  conv=>whnf
  refine ⟨by show i < nl A+1; omega,?_⟩
  conv=>whnf
  rw [limbRow_set horl]
  simp only [e3,shr_u64_32,div_B,u32_mod,hvm]
  refine ⟨⟨by omega,by omega⟩,?_⟩
  simp only [toNat_cast,rowAdd_eq,Nat.zero_add]
  conv=>whnf
  refine ⟨by show i+1 < nl A+1; omega,?_⟩
  conv=>whnf
  rw [limbRow_set hvB,hst]
  simp only [e3]
  refine .inl ⟨_,?_,i+1,A % B ^ (i+1)*2 ^ s,(.keep (.keep (.sk 3 (.keep (.sk 7 (.keep (.keep (.keep (.sk 25 .nil rfl)))) rfl)) rfl))),rfl,rfl,?_⟩
  ·omega
  ·exact ⟨by omega,rfl⟩
 ·have h1:i=nl A:=by
   have h1:¬ i < nl A:=by simpa using h1
   omega
  subst h1
  rw [Nat.mod_eq_of_lt (lt_nl A)] at hY
  subst hY
  conv=>whnf
  refine ⟨1,?_⟩
  conv=>whnf
  refine ⟨⟨rfl,⟨(fun h=>⟨rfl,rfl⟩),rfl,Nat.le_refl _,fun _ _=>rfl,fun r hr v hv=>allS_spec (l:=limbRow (A*2 ^ s) r) rfl v hv⟩⟩,_,rfl,?_⟩
  exact .refl _
theorem unshift_ok:QSnd Tryz.prog 169 unshiftS:=by
 refine qsnd_of Efok Dok Tryz.func169 (enters_of Tryz.func169 (by kernel_rfl) rfl) ?_ ?_ ?_
 ·intro i b hb; simp [unshiftS,newB] at hb; rcases hb with rfl | rfl <;> rfl
 ·intro i b hb; simp [unshiftS] at hb; rw [← hb]; rfl
 intro ⟨A,ca,s⟩ hp
 have hp:nl A≤137438953472∧s≤31:=hp
 conv=>whnf
 refine ⟨⟨by omega,by omega,by show ((nl A:Nat):Int)*((4:Nat):Int)≤_; omega⟩,?_⟩
 simp only [toNat_cast,limbRow_zero]
 conv=>whnf
 refine .inl ⟨fun mm tz hz=>∃ (i:Nat) (Y:Nat),Pat (some (.slice (some ⟨0,0,none⟩) (nl A) ca)::some (.int .i64 s)::nos 3 (some (.slice (some ⟨1,0,none⟩) (nl A) (nl A))::nos 6 (some (.int .i64 (nl A))::some (.int .i64 i)::nos 31 []))) tz∧hz=[some (.flat false (nl A) 1 (limbRow A)),some (.flat true (nl A) 1 (limbRow Y))]∧nl A - i=mm∧(i≤nl A∧Y=A / 2 ^ s % B ^ i),.inl ⟨_,0,0,(.keep (.keep (.sk 3 (.keep (.sk 6 (.keep (.keep (.sk 31 .nil rfl))) rfl)) rfl))),rfl,rfl,?_⟩,?_⟩
 ·exact ⟨Nat.zero_le _,by simp [Nat.mod_one]⟩
 rintro mm tms _ ⟨i,Y,hpat,rfl,rfl,⟨hi,hY⟩⟩
 obtain ⟨az,rfl⟩:∃ az:Nat→Value,tms=.slice (some ⟨0,0,none⟩) (nl A) ca::.int .i64 s::zs az 2 3 (.slice (some ⟨1,0,none⟩) (nl A) (nl A)::zs az 6 6 (.int .i64 (nl A)::.int .i64 i::zs az 14 31 [])):=pat_fill hpat
 clear hpat
 conv=>whnf
 refine br_intro (fun h1=>?_) (fun h1=>?_)
 ·have h1:i < nl A:=by simpa using h1
  have hl:=limb_lt A i
  have hl2:limb A (i+1) < B:=limb_lt A (i+1)
  have e3:IntKind.i64.wrap (((i:Nat):Int)+1)=((i+1:Nat):Int):=by rw [wrapi64 (by omega) (by omega)]; rfl
  have hl64:IntKind.u64.wrap ((limb A i:Nat):Int)=((limb A i:Nat):Int):=wrapu64 (by omega) (by have:B=4294967296:=rfl; omega)
  have hl65:IntKind.u64.wrap ((limb A (i+1):Nat):Int)=((limb A (i+1):Nat):Int):=wrapu64 (by omega) (by have:B=4294967296:=rfl; omega)
  have hd:=unshift_limb (A:=A) (i:=i) hp.2
  have hY2:setLimb Y i (limb (A / 2 ^ s) i)=A / 2 ^ s % B ^ (i+1):=by
   rw [mod_succ,← hY]
   exact setLimb_new (by rw [hY]; exact Nat.mod_lt _ (Bpos i))
  conv=>whnf
  refine ⟨⟨by omega,by omega⟩,?_⟩
  try simp (disch:=omega) only [wrapi64,wrapu64,wrapu32,wrapu8,shr_u64_32,shr_u64_31,shl_u64_32,shl_i64_8,shr_i64_8,shr_u32_8,shr_u32_16,shr_u32_24,or_word',or_byte',toNat_cast,rowAdd_eq,Nat.zero_add,capSub_zero,toNat_0,toNat_1,Nat.sub_zero,sub1c,add1c,subc,addc,tdiv4,tmod4,cast_mul8,mul8c]
  conv=>whnf
  refine ⟨by show i < nl A; omega,?_⟩
  conv=>whnf
  simp only [e3,hl64]
  refine br_intro (fun h2=>?_) (fun h2=>?_)
  ·have h2:i+1 < nl A:=by
    have h2:=of_decide_eq_true h2
    omega
   conv=>whnf
   simp only [e3]
   refine ⟨⟨by omega,by omega⟩,?_⟩
   simp only [toNat_cast,rowAdd_eq,Nat.zero_add]
   conv=>whnf
   refine ⟨by show i+1 < nl A; omega,?_⟩
   conv=>whnf
   have hsl:IntKind.u64.wrap (((limb A (i+1):Nat):Int)*4294967296)=((limb A (i+1):Nat):Int)*4294967296:=wrapu64 (by omega) (by have:B=4294967296:=rfl; omega)
   simp only [hl65,shl_u64_32,hsl,or_word2 hl2 hl]
   simp only [shr_u64 hp.2,toNat_cast,u32_mod]
   refine ⟨⟨by omega,by omega⟩,?_⟩
   simp only [toNat_cast,rowAdd_eq,Nat.zero_add]
   conv=>whnf
   refine ⟨by show i < nl A; omega,?_⟩
   conv=>whnf
   simp only [e3,← hd]
   rw [limbRow_set (limb_lt (A / 2 ^ s) i),hY2]
   refine .inl ⟨_,?_,i+1,A / 2 ^ s % B ^ (i+1),(.keep (.keep (.sk 3 (.keep (.sk 6 (.keep (.keep (.sk 31 .nil rfl))) rfl)) rfl))),rfl,rfl,?_⟩
   ·omega
   ·exact ⟨by omega,rfl⟩
  ·have h2:nl A≤i+1:=by
    have h2:=of_decide_eq_false h2
    omega
   have h0:=limb_top (lt_nl A) h2
   rw [h0,Nat.zero_mul,Nat.add_zero] at hd
   conv=>whnf
   simp only [shr_u64 hp.2,toNat_cast,u32_mod]
   refine ⟨⟨by omega,by omega⟩,?_⟩
   simp only [toNat_cast,rowAdd_eq,Nat.zero_add]
   conv=>whnf
   refine ⟨by show i < nl A; omega,?_⟩
   conv=>whnf
   simp only [e3,← hd]
   rw [limbRow_set (limb_lt (A / 2 ^ s) i),hY2]
   refine .inl ⟨_,?_,i+1,A / 2 ^ s % B ^ (i+1),(.keep (.keep (.sk 3 (.keep (.sk 6 (.keep (.keep (.sk 31 .nil rfl))) rfl)) rfl))),rfl,rfl,?_⟩
   ·omega
   ·exact ⟨by omega,rfl⟩
 ·have h1:i=nl A:=by
   have h1:¬ i < nl A:=by simpa using h1
   omega
  subst h1
  have hlt:A / 2 ^ s < B ^ nl A:=Nat.lt_of_le_of_lt (Nat.div_le_self _ _) (lt_nl A)
  have hle:=nl_le hlt
  rw [Nat.mod_eq_of_lt hlt] at hY
  subst hY
  conv=>whnf
  refine ⟨some (nl A,A / 2 ^ s,nl A),[1],rfl,⟨hlt,by omega⟩,?_⟩
  conv=>whnf
  refine ⟨BlkLe.flat_flat (fun h=>by cases h) (fun r hr=>rfl),?_⟩
  conv=>whnf
  refine ⟨_,rfl,?_⟩
  conv=>whnf
  refine ⟨1,?_⟩
  conv=>whnf
  refine ⟨⟨rfl,⟨(fun h=>⟨rfl,rfl⟩),rfl,Nat.le_refl _,fun _ _=>rfl,fun r hr v hv=>allS_spec (l:=limbRow (A / 2 ^ s) r) rfl v hv⟩⟩,_,rfl,?_⟩
  exact .cap _ _ _ rfl
end Go.Proofs.YtppeponndkfbkaaGreat
